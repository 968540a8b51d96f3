/- Functions of the program, told by plain functions: part 1 of 1. -/
import Derived.Test.YtnmmhkanpfmaaaaGreatDoorCtx
namespace Go.Proofs.YtnmmhkanpfmaaaaGreatDoor.G
open Go Go.Ev
set_option linter.unusedVariables false
set_option maxRecDepth 100000
set_option linter.unusedSectionVars false
variable [PC]
abbrev DAI:=SThing→Int→Option Int
noncomputable def EAI (a:SThing) (b:Int):Option Int:=
 bif (w64 (b - (a.fValue.size:Int)))<0 then
 some (-(1:Int))
 else
 some (w64 (b - (a.fValue.size:Int)))
noncomputable def BAA:DAI:=EAI
theorem KAO:Tells ctx PP 6 cv0 cv1 (fun a=>BAA a.1 a.2):=fz0 cn Tryz.func6 [] (fun _ a=>EAI a.1 a.2) fun _ _=>by kernel_rfl
abbrev FAI:=SThing→Option SThing
noncomputable def CAA (a:SThing):Option SThing:=
 some a
noncomputable def Sz:FAI:=CAA
theorem LAO:Tells ctx PP 8 cv2 cv2 (fun a=>Sz a):=fz0 cn Tryz.func8 [] (fun _ a=>CAA a) fun _ _=>by kernel_rfl
abbrev Ae:=Int→Int→Int→Option Bool
noncomputable def GAI (a:Int) (b:Int) (d:Int):Option Bool:=
 bif a≥b then
 some (decide (a≤d))
 else
 some false
noncomputable def Ed:Ae:=GAI
theorem Tj:Tells ctx PP 35 cv3 cv4 (fun a=>Ed a.1 a.2.1 a.2.2):=fz0 cn Tryz.func35 [] (fun _ a=>GAI a.1 a.2.1 a.2.2) fun _ _=>by kernel_rfl
abbrev HAI:=SThing→Option Bool
noncomputable def DAA (z0:Ae) (a:SThing):Option Bool:=
 (z0 a.fId 1 1000).bind fun r0=>
 bif (!r0) then
 some false
 else
 (z0 a.fKind 1 3).bind fun r1=>
 bif (!r1) then
  some false
 else
  (z0 a.fNext 0 16).bind fun r2=>
  bif (!r2) then
  some false
  else
  bif (a.fKind != 2) then
   bif (a.fNext != 0) then
   some false
   else
   bif a.fSigns then
    some false
   else
    bif (a.fKind != 1) then
    bif a.fWraps then
     some false
    else
     bif (a.fKind == 3) then
     some (decide ((a.fValue.size:Int)≤100))
     else
     some ((a.fValue.size:Int) == 32)
    else
    bif (a.fKind == 3) then
     some (decide ((a.fValue.size:Int)≤100))
    else
     some ((a.fValue.size:Int) == 32)
  else
   bif (a.fKind != 1) then
   bif a.fWraps then
    some false
   else
    bif (a.fKind == 3) then
    some (decide ((a.fValue.size:Int)≤100))
    else
    some ((a.fValue.size:Int) == 32)
   else
   bif (a.fKind == 3) then
    some (decide ((a.fValue.size:Int)≤100))
   else
    some ((a.fValue.size:Int) == 32)
noncomputable def Tz:HAI:=DAA Ed
theorem MAO:Tells ctx PP 14 cv2 cv4 (fun a=>Tz a):=fz0 (cc3 Tj cn) Tryz.func14 [] (fun z a=>DAA z.1 a) fun _ _=>by kernel_rfl
abbrev IAI:=Option (List Int)
noncomputable def JAI  : Option (List Int):=
 some [1779033703,3144134277,1013904242,2773480762,1359893119,2600822924,528734635,1541459225]
noncomputable def EAA:IAI:=JAI
theorem NAO:Tells ctx PP 84 cv5 cv6 (fun _=>EAA):=fz0 cn Tryz.func84 [] (fun _ _=>JAI) fun _ _=>by kernel_rfl
abbrev Pm:=(List Int)→Option ByteArray
inductive Sr where
 | c0 (a:(List Int)) (b:Int) (d:(List Int))
noncomputable def OAO:Sr→LI
 | .c0 a b d=>(tdo Tryz.f83 464,[(0,[.one (.rsl 133 a)]),(3,[.one (.own 240)]),(4,[.one (.int .i64 b)])],[(240,.sl 5 d)])
noncomputable def KAI (k:Sr→Option ByteArray) (a:(List Int)):Option ByteArray:=
 k (.c0 a 0 [])
noncomputable def Uz (k:Sr→Option ByteArray):Sr→Option ByteArray
 | .c0 b a d=>
 bif a<(b.length:Int) then
  bif 0≤a&&a<(b.length:Int) then
  bif ((d.length+4)*1)≤140737488355328 then
  k (.c0 b (w64 (a+1)) (d++[(w8 (w32 ((b.getD a.toNat 0).tdiv 16777216))),(w8 ((w32 ((b.getD a.toNat 0).tdiv 65536)).tmod 256)),(w8 ((w32 ((b.getD a.toNat 0).tdiv 256)).tmod 256)),(w8 ((b.getD a.toNat 0).tmod 256))]))
  else none
  else none
 else
  some (ofBytes d)
noncomputable def Qm:Nat→Sr→Option ByteArray
 | 0,_=>none
 | m+1,s=>Uz (Qm m) s
noncomputable def Uj:Pm:=KAI (Qm gas)
theorem FAA:Tells ctx PP 83 cv7 cv8 (fun a=>Uj a):=fz cn Tryz.func83 [] OAO (fun _=>Uz) (fun _ k a=>KAI k a) Qm gas (fun s s' h=>by cases s;cases s';cases h;rfl) (fun _ _ s=>by cases s <;> kernel_rfl) fun _ _ _=>by kernel_rfl
abbrev LAI:=Option SHasher
noncomputable def GAA (z0:IAI) (z1:Pm)  : Option SHasher:=
 z0.bind fun r0=>
 (z1 r0).bind fun r1=>
 some ⟨r1,⟨#[]⟩,0⟩
noncomputable def Vz:LAI:=GAA EAA Uj
theorem PAO:Tells ctx PP 46 cv5 cv9 (fun _=>Vz):=fz0 (cc0 NAO (cc1 FAA cn)) Tryz.func46 [] (fun z _=>GAA z.1 z.2.1) fun _ _=>by kernel_rfl
abbrev Ur:=SHasher→Option Bool
noncomputable def HAA (z0:Ae) (a:SHasher):Option Bool:=
 bif ((a.fState.size:Int) == 32) then
 bif (a.fRest.size:Int)<64 then
  (z0 a.fCount 0 1000000000).bind fun r0=>
  bif r0 then
  some ((a.fCount.tmod 64) == (a.fRest.size:Int))
  else
  some false
 else
  some false
 else
 some false
noncomputable def Bh:Ur:=HAA Ed
theorem MAI:Tells ctx PP 79 cv9 cv4 (fun a=>Bh a):=fz0 (cc3 Tj cn) Tryz.func79 [] (fun z a=>HAA z.1 a) fun _ _=>by kernel_rfl
abbrev IAA:=ByteArray→Int→Option Int
noncomputable def JAA (b:ByteArray) (a:Int):Option Int:=
 bif 0≤a&&a<(b.size:Int) then
 bif 0≤(w64 (a+1))&&(w64 (a+1))<(b.size:Int) then
 bif 0≤(w64 (a+2))&&(w64 (a+2))<(b.size:Int) then
 bif 0≤(w64 (a+3))&&(w64 (a+3))<(b.size:Int) then
 some (w32 ((w32 ((w32 ((w32 ((w32 (bt b a))*16777216))+(w32 ((w32 (bt b (w64 (a+1))))*65536))))+(w32 ((w32 (bt b (w64 (a+2))))*256))))+(w32 (bt b (w64 (a+3))))))
 else none
 else none
 else none
 else none
noncomputable def Vr:IAA:=JAA
theorem QAO:Tells ctx PP 119 cv10 cv11 (fun a=>Vr a.1 a.2):=fz0 cn Tryz.func119 [] (fun _ a=>JAA a.1 a.2) fun _ _=>by kernel_rfl
abbrev Vj:=ByteArray→Option (List Int)
inductive Xr where
 | c0 (a:ByteArray) (b:Int) (d:(List Int))
noncomputable def RAO:Xr→LI
 | .c0 a b d=>(tdo Tryz.f80 464,[(0,[.one (.str a)]),(3,[.one (.own 240)]),(4,[.one (.int .i64 b)])],[(240,.sl 133 d)])
noncomputable def NAI (z0:IAA) (k:Xr→Option (List Int)) (a:ByteArray):Option (List Int):=
 k (.c0 a 0 [])
noncomputable def Xz (z0:IAA) (k:Xr→Option (List Int)):Xr→Option (List Int)
 | .c0 a b d=>
 bif (w64 (b+4))≤(a.size:Int) then
  (z0 a b).bind fun r0=>
  bif ((d.length+1)*4)≤140737488355328 then
  k (.c0 a (w64 (b+4)) (d++[r0]))
  else none
 else
  some d
noncomputable def Sm:Nat→Xr→Option (List Int)
 | 0,_=>none
 | m+1,s=>Xz Vr (Sm m) s
noncomputable def Dh:Vj:=NAI Vr (Sm gas)
theorem KAA:Tells ctx PP 80 cv8 cv6 (fun a=>Dh a):=fz (cc2 QAO cn) Tryz.func80 [] RAO (fun z=>Xz z.1) (fun z k a=>NAI z.1 k a) Sm gas (fun s s' h=>by cases s;cases s';cases h;rfl) (fun _ _ s=>by cases s <;> kernel_rfl) fun _ _ _=>by kernel_rfl
abbrev Yr:=Option (List Int)
noncomputable def OAI  : Option (List Int):=
 some [1116352408,1899447441,3049323471,3921009573,961987163,1508970993,2453635748,2870763221,3624381080,310598401,607225278,1426881987,1925078388,2162078206,2614888103,3248222580,3835390401,4022224774,264347078,604807628,770255983,1249150122,1555081692,1996064986,2554220882,2821834349,2952996808,3210313671,3336571891,3584528711,113926993,338241895,666307205,773529912,1294757372,1396182291,1695183700,1986661051,2177026350,2456956037,2730485921,2820302411,3259730800,3345764771,3516065817,3600352804,4094571909,275423344,430227734,506948616,659060556,883997877,958139571,1322822218,1537002063,1747873779,1955562222,2024104815,2227730452,2361852424,2428436474,2756734187,3204031479,3329325298]
noncomputable def Um:Yr:=OAI
theorem PAI:Tells ctx PP 81 cv5 cv6 (fun _=>Um):=fz0 cn Tryz.func81 [] (fun _ _=>OAI) fun _ _=>by kernel_rfl
abbrev QAI:=Int→Int→Int→Option Int
noncomputable def LAA (b:Int) (a:Int) (d:Int):Option Int:=
 bif (!(a == 0)) then
 bif (!(a == 0)) then
 some (w32 ((w32 (b.tdiv a))+(w32 ((b.tmod a)*d))))
 else none
 else none
noncomputable def Yz:QAI:=LAA
theorem SAO:Tells ctx PP 161 cv12 cv11 (fun a=>Yz a.1 a.2.1 a.2.2):=fz0 cn Tryz.func161 [] (fun _ a=>LAA a.1 a.2.1 a.2.2) fun _ _=>by kernel_rfl
abbrev MAA:=Int→Int→Int→Int→Bool→Option Int
noncomputable def Vm (z0:QAI) (b:Int) (d:Int) (e:Int) (a:Int) (f:Bool):Option Int:=
 bif (!(d == 0)) then
 (z0 b d (w32 ((w32 ((2147483648:Int).tdiv d))*2))).bind fun r0=>
 bif (!(e == 0)) then
 (z0 b e (w32 ((w32 ((2147483648:Int).tdiv e))*2))).bind fun r1=>
 bif (!(a == 0)) then
 bif (!f) then
 bif (!(a == 0)) then
 (z0 b a (w32 ((w32 ((2147483648:Int).tdiv a))*2))).bind fun r2=>
 some (w32 (((BitVec.toNat ((BitVec.ofInt (IntKind.bits IntKind.u32) (w32 (((BitVec.toNat ((BitVec.ofInt (IntKind.bits IntKind.u32) r0) ^^^ (BitVec.ofInt (IntKind.bits IntKind.u32) r1))):Nat):Int))) ^^^ (BitVec.ofInt (IntKind.bits IntKind.u32) r2))):Nat):Int))
 else none
 else
 some (w32 (((BitVec.toNat ((BitVec.ofInt (IntKind.bits IntKind.u32) (w32 (((BitVec.toNat ((BitVec.ofInt (IntKind.bits IntKind.u32) r0) ^^^ (BitVec.ofInt (IntKind.bits IntKind.u32) r1))):Nat):Int))) ^^^ (BitVec.ofInt (IntKind.bits IntKind.u32) (w32 (b.tdiv a))))):Nat):Int))
 else none
 else none
 else none
noncomputable def Oe:MAA:=Vm Yz
theorem TAO:Tells ctx PP 120 cv13 cv11 (fun a=>Oe a.1 a.2.1 a.2.2.1 a.2.2.2.1 a.2.2.2.2):=fz0 (cc3 SAO cn) Tryz.func120 [] (fun z a=>Vm z.1 a.1 a.2.1 a.2.2.1 a.2.2.2.1 a.2.2.2.2) fun _ _=>by kernel_rfl
abbrev Zr:=(List Int)→(List Int)→ByteArray→Option (List Int)
inductive Es where
 | c0 (a b:(List Int)) (g:Int) (d:(List Int))
 | c1 (a b:(List Int)) (f:Int) (d e:(List Int))
 | c2 (a b:(List Int)) (f h:Int) (i j:Int) (d e:(List Int))
 | c3 (a:(List Int)) (n:Int) (e o:(List Int))
noncomputable def UAO:Es→LI
 | .c0 a b g d=>(tdo Tryz.f82 464,[(0,[.one (.rsl 133 a)]),(1,[.one (.rsl 133 b)]),(7,[.one (.own 496)]),(8,[.one (.int .i64 g)])],[(496,.sl 133 d)])
 | .c1 a b f d e=>(tdo Tryz.f82 2000,[(0,[.one (.rsl 133 a)]),(1,[.one (.rsl 133 b)]),(7,[.one (.own 496)]),(9,[.one (.own 624)]),(10,[.one (.int .i64 f)])],[(496,.sl 133 d),(624,.sl 133 e)])
 | .c2 a b f h i j d e=>(tdo Tryz.f82 8202192,[(0,[.one (.rsl 133 a)]),(1,[.one (.rsl 133 b)]),(7,[.one (.own 496)]),(9,[.one (.own 624)]),(10,[.one (.int .i64 f)]),(13,[.one (.int .u32 h)]),(15,[.one (.int .u32 i)]),(16,[.one (.int .i64 j)])],[(496,.sl 133 d),(624,.sl 133 e)])
 | .c3 a n e o=>(tdo Tryz.f82 8144,[(0,[.one (.rsl 133 a)]),(9,[.one (.own 624)]),(17,[.one (.own 1136)]),(18,[.one (.int .i64 n)])],[(624,.sl 133 e),(1136,.sl 133 o)])
noncomputable def NAA (z0:Vj) (z1:MAA) (k:Es→Option (List Int)) (a:(List Int)) (b:(List Int)) (d:ByteArray):Option (List Int):=
 (z0 d).bind fun r0=>
 k (.c0 a b 16 r0)
noncomputable def Gf (z0:Vj) (z1:MAA) (k:Es→Option (List Int)):Es→Option (List Int)
 | .c0 d g e b=>
 bif e<64 then
  bif 0≤(w64 (e - 2))&&(w64 (e - 2))<(b.length:Int) then
  (z1 (b.getD (w64 (e - 2)).toNat 0) 131072 524288 1024 true).bind fun r0=>
  bif 0≤(w64 (e - 7))&&(w64 (e - 7))<(b.length:Int) then
  bif 0≤(w64 (e - 15))&&(w64 (e - 15))<(b.length:Int) then
  (z1 (b.getD (w64 (e - 15)).toNat 0) 128 262144 8 true).bind fun r1=>
  bif 0≤(w64 (e - 16))&&(w64 (e - 16))<(b.length:Int) then
  bif ((b.length+1)*4)≤140737488355328 then
  k (.c0 d g (w64 (e+1)) (b++[(w32 ((w32 ((w32 (r0+(b.getD (w64 (e - 7)).toNat 0)))+r1))+(b.getD (w64 (e - 16)).toNat 0)))]))
  else none
  else none
  else none
  else none
  else none
 else
  bif ((0+d.length)*4)≤140737488355328 then
  k (.c1 d g 0 b ([]++d))
  else none
 | .c1 d g f b a=>
 bif f<64 then
  bif (0:Int)≤(4:Int)&&4<(a.length:Int) then
  bif (0:Int)≤(5:Int)&&5<(a.length:Int) then
  bif (0:Int)≤(6:Int)&&6<(a.length:Int) then
  bif (0:Int)≤(7:Int)&&7<(a.length:Int) then
  (z1 (a.getD (4:Int).toNat 0) 64 2048 33554432 false).bind fun r0=>
  bif 0≤f&&f<(g.length:Int) then
  bif 0≤f&&f<(b.length:Int) then
  bif (0:Int)≤(0:Int)&&0<(a.length:Int) then
  bif (0:Int)≤(1:Int)&&1<(a.length:Int) then
  bif (0:Int)≤(0:Int)&&0<(a.length:Int) then
  bif (0:Int)≤(2:Int)&&2<(a.length:Int) then
  bif (0:Int)≤(1:Int)&&1<(a.length:Int) then
  bif (0:Int)≤(2:Int)&&2<(a.length:Int) then
  bif (0:Int)≤(0:Int)&&0<(a.length:Int) then
  (z1 (a.getD (0:Int).toNat 0) 4 8192 4194304 false).bind fun r1=>
  k (.c2 d g f (w32 ((w32 ((w32 ((w32 ((a.getD (7:Int).toNat 0)+r0))+(w32 (((BitVec.toNat ((BitVec.ofInt (IntKind.bits IntKind.u32) (w32 (((BitVec.toNat ((BitVec.ofInt (IntKind.bits IntKind.u32) (a.getD (4:Int).toNat 0)) &&& (BitVec.ofInt (IntKind.bits IntKind.u32) (a.getD (5:Int).toNat 0)))):Nat):Int))) ^^^ (BitVec.ofInt (IntKind.bits IntKind.u32) (w32 (((BitVec.toNat ((BitVec.ofInt (IntKind.bits IntKind.u32) (w32 (4294967295 - (a.getD (4:Int).toNat 0)))) &&& (BitVec.ofInt (IntKind.bits IntKind.u32) (a.getD (6:Int).toNat 0)))):Nat):Int))))):Nat):Int))))+(g.getD f.toNat 0)))+(b.getD f.toNat 0))) (w32 (r1+(w32 (((BitVec.toNat ((BitVec.ofInt (IntKind.bits IntKind.u32) (w32 (((BitVec.toNat ((BitVec.ofInt (IntKind.bits IntKind.u32) (w32 (((BitVec.toNat ((BitVec.ofInt (IntKind.bits IntKind.u32) (a.getD (0:Int).toNat 0)) &&& (BitVec.ofInt (IntKind.bits IntKind.u32) (a.getD (1:Int).toNat 0)))):Nat):Int))) ^^^ (BitVec.ofInt (IntKind.bits IntKind.u32) (w32 (((BitVec.toNat ((BitVec.ofInt (IntKind.bits IntKind.u32) (a.getD (0:Int).toNat 0)) &&& (BitVec.ofInt (IntKind.bits IntKind.u32) (a.getD (2:Int).toNat 0)))):Nat):Int))))):Nat):Int))) ^^^ (BitVec.ofInt (IntKind.bits IntKind.u32) (w32 (((BitVec.toNat ((BitVec.ofInt (IntKind.bits IntKind.u32) (a.getD (1:Int).toNat 0)) &&& (BitVec.ofInt (IntKind.bits IntKind.u32) (a.getD (2:Int).toNat 0)))):Nat):Int))))):Nat):Int)))) 7 b a)
  else none
  else none
  else none
  else none
  else none
  else none
  else none
  else none
  else none
  else none
  else none
  else none
  else none
 else
  k (.c3 d 0 a [])
 | .c2 d g f j o h b a=>
 bif h > 0 then
  bif 0≤(w64 (h - 1))&&(w64 (h - 1))<(a.length:Int) then
  bif 0≤h&&h<(a.length:Int) then
  k (.c2 d g f j o (w64 (h - 1)) b (a.set h.toNat (a.getD (w64 (h - 1)).toNat 0)))
  else none
  else none
 else
  bif (0:Int)≤(4:Int)&&4<(a.length:Int) then
  bif (0:Int)≤(4:Int)&&4<(a.length:Int) then
  bif (0:Int)≤(0:Int)&&0<((a.set (4:Int).toNat (w32 ((a.getD (4:Int).toNat 0)+j))).length:Int) then
  k (.c1 d g (w64 (f+1)) b ((a.set (4:Int).toNat (w32 ((a.getD (4:Int).toNat 0)+j))).set (0:Int).toNat (w32 (j+o))))
  else none
  else none
  else none
 | .c3 d i a n=>
 bif i<8 then
  bif 0≤i&&i<(d.length:Int) then
  bif 0≤i&&i<(a.length:Int) then
  bif ((n.length+1)*4)≤140737488355328 then
  k (.c3 d (w64 (i+1)) a (n++[(w32 ((d.getD i.toNat 0)+(a.getD i.toNat 0)))]))
  else none
  else none
  else none
 else
  some n
noncomputable def Ib:Nat→Es→Option (List Int)
 | 0,_=>none
 | m+1,s=>Gf Dh Oe (Ib m) s
noncomputable def Wj:Zr:=NAA Dh Oe (Ib gas)
theorem RAI:Tells ctx PP 82 cv14 cv6 (fun a=>Wj a.1 a.2.1 a.2.2):=fz (cc1 KAA (cc5 TAO cn)) Tryz.func82 [] UAO (fun z=>Gf z.1 z.2.1) (fun z k a=>NAA z.1 z.2.1 k a.1 a.2.1 a.2.2) Ib gas (fun s s' h=>by cases s <;> cases s' <;> first | (cases h;done) | (cases h;rfl) | exact (rg_ne h (by kernel_rfl)).elim) (fun _ _ s=>by cases s <;> kernel_rfl) fun _ _ _=>by kernel_rfl
abbrev SAI:=SHasher→ByteArray→Option SHasher
inductive Gs where
 | c0 (a b:ByteArray) (d:Int) (e f:SHasher) (g h:(List Int))
noncomputable def VAO:Gs→LI
 | .c0 d e f a b g h=>(tdo Tryz.f45 4064,[(1,[.one (.str d)]),(2,[.one (.ptr 128 0)]),(4,[.one (.ptr 256 0)]),(5,[.one (.own 368)]),(6,[.one (.own 432)]),(7,[.one (.str e)]),(8,[.one (.int .i64 f)])],[(128,.var [.str a.fState,.str a.fRest,.int .i64 a.fCount]),(256,.var [.str b.fState,.str b.fRest,.int .i64 b.fCount]),(368,.sl 133 g),(432,.sl 133 h)])
noncomputable def OAA (z0:Ur) (z1:Vj) (z2:Yr) (z3:Zr) (z4:Pm) (k:Gs→Option SHasher) (a:SHasher) (b:ByteArray):Option SHasher:=
 (z0 a).bind fun r0=>
 bif (!r0) then
 some a
 else
 bif (w64 (a.fCount+(b.size:Int))) > 1000000000 then
  some a
 else
  (z1 a.fState).bind fun r1=>
  z2.bind fun r2=>
  bif (a.fRest.size+b.size)≤9223372036854775807 then
  k (.c0 b (a.fRest++b) 0 a ⟨⟨#[]⟩,⟨#[]⟩,0⟩ r1 r2)
  else none
noncomputable def Zz (z0:Ur) (z1:Vj) (z2:Yr) (z3:Zr) (z4:Pm) (k:Gs→Option SHasher):Gs→Option SHasher
 | .c0 d b a e h f g=>
 bif (w64 (a+64))≤(b.size:Int) then
  bif (((decide (0≤a)) && (decide (a≤(w64 (a+64))))) && (decide ((w64 (a+64))≤(b.size:Int)))) then
  (z3 f g (b.extract a.toNat (w64 (a+64)).toNat)).bind fun r0=>
  k (.c0 d b (w64 (a+64)) e h r0 g)
  else none
 else
  (z4 f).bind fun r1=>
  bif 0≤a&&a≤(b.size:Int) then
  some ⟨r1,(b.extract a.toNat b.size),(w64 (e.fCount+(d.size:Int)))⟩
  else none
noncomputable def Xm:Nat→Gs→Option SHasher
 | 0,_=>none
 | m+1,s=>Zz Bh Dh Um Wj Uj (Xm m) s
noncomputable def O0:SAI:=OAA Bh Dh Um Wj Uj (Xm gas)
theorem WAO:Tells ctx PP 45 cv15 cv9 (fun a=>O0 a.1 a.2):=fz (cc1 MAI (cc1 KAA (cc0 PAI (cc3 RAI (cc1 FAA cn))))) Tryz.func45 [] VAO (fun z=>Zz z.1 z.2.1 z.2.2.1 z.2.2.2.1 z.2.2.2.2.1) (fun z k a=>OAA z.1 z.2.1 z.2.2.1 z.2.2.2.1 z.2.2.2.2.1 k a.1 a.2) Xm gas (fun s s' h=>by cases s;cases s';(repeat cases ‹SHasher›);cases h;rfl) (fun _ _ s=>by cases s <;> kernel_rfl) fun _ _ _=>by kernel_rfl
abbrev TAI:=SHasher→Option ByteArray
inductive Js where
 | c0 (b:SHasher) (a:(List Int))
 | c1 (d e:Int) (b:SHasher) (a:(List Int))
 | c2 (d e:Int) (f g:Int) (b:SHasher) (a:(List Int))
 | c3 (h:Int) (a i j:(List Int))
noncomputable def XAO:Js→LI
 | .c0 a b=>(tdo Tryz.f44 992,[(1,[.one (.ptr 64 0)]),(3,[.one (.own 240)])],[(64,.var [.str a.fState,.str a.fRest,.int .i64 a.fCount]),(240,.sl 5 b)])
 | .c1 d e a b=>(tdo Tryz.f44 8144,[(1,[.one (.ptr 64 0)]),(3,[.one (.own 240)]),(4,[.one (.int .i64 d)]),(5,[.one (.int .i64 e)])],[(64,.var [.str a.fState,.str a.fRest,.int .i64 a.fCount]),(240,.sl 5 b)])
 | .c2 d e f g a b=>(tdo Tryz.f44 2085456,[(1,[.one (.ptr 64 0)]),(3,[.one (.own 240)]),(4,[.one (.int .i64 d)]),(5,[.one (.int .i64 e)]),(6,[.one (.int .i64 f)]),(7,[.one (.int .i64 g)])],[(64,.var [.str a.fState,.str a.fRest,.int .i64 a.fCount]),(240,.sl 5 b)])
 | .c3 h b i j=>(tdo Tryz.f44 65488,[(3,[.one (.own 240)]),(8,[.one (.own 560)]),(9,[.one (.own 624)]),(10,[.one (.int .i64 h)])],[(240,.sl 5 b),(560,.sl 133 i),(624,.sl 133 j)])
noncomputable def PAA (z0:Ur) (z1:Vj) (z2:Yr) (z3:Zr) (z4:Pm) (k:Js→Option ByteArray) (a:SHasher):Option ByteArray:=
 (z0 a).bind fun r0=>
 bif (!r0) then
 some ⟨#[]⟩
 else
 bif a.fRest.size≤9223372036854775807 then
 bif (((bytesOf a.fRest).length+1)*1)≤140737488355328 then
 k (.c0 a ((bytesOf a.fRest)++[(128:Int)]))
 else none
 else none
noncomputable def Hf (z0:Ur) (z1:Vj) (z2:Yr) (z3:Zr) (z4:Pm) (k:Js→Option ByteArray):Js→Option ByteArray
 | .c0 b a=>
 bif (((a.length:Int).tmod 64) != 56) then
  bif ((a.length+1)*1)≤140737488355328 then
  k (.c0 b (a++[(0:Int)]))
  else none
 else
  k (.c1 (w64 (8*b.fCount)) 7 b a)
 | .c1 f e b a=>
 bif e≥0 then
  k (.c2 f e f 0 b a)
 else
  (z1 b.fState).bind fun r0=>
  z2.bind fun r1=>
  k (.c3 0 a r0 r1)
 | .c2 f e g h b a=>
 bif h<e then
  k (.c2 f e (w64 (g.tdiv 256)) (w64 (h+1)) b a)
 else
  bif ((a.length+1)*1)≤140737488355328 then
  k (.c1 f (w64 (e - 1)) b (a++[(w8 (g.tmod 256))]))
  else none
 | .c3 d a i j=>
 bif d<(a.length:Int) then
  bif (((decide (0≤d)) && (decide (d≤(w64 (d+64))))) && (decide ((w64 (d+64))≤(a.length:Int)))) then
  (z3 i j (ofBytes ((a.drop d.toNat).take ((w64 (d+64)).toNat - d.toNat)))).bind fun r0=>
  k (.c3 (w64 (d+64)) a r0 j)
  else none
 else
  (z4 i).bind fun r1=>
  some r1
noncomputable def Jb:Nat→Js→Option ByteArray
 | 0,_=>none
 | m+1,s=>Hf Bh Dh Um Wj Uj (Jb m) s
noncomputable def U0:TAI:=PAA Bh Dh Um Wj Uj (Jb gas)
theorem YAO:Tells ctx PP 44 cv9 cv8 (fun a=>U0 a):=fz (cc1 MAI (cc1 KAA (cc0 PAI (cc3 RAI (cc1 FAA cn))))) Tryz.func44 [] XAO (fun z=>Hf z.1 z.2.1 z.2.2.1 z.2.2.2.1 z.2.2.2.2.1) (fun z k a=>PAA z.1 z.2.1 z.2.2.1 z.2.2.2.1 z.2.2.2.2.1 k a) Jb gas (fun s s' h=>by cases s <;> cases s' <;> first | ((repeat cases ‹SHasher›);cases h;done) | ((repeat cases ‹SHasher›);cases h;rfl) | exact (rg_ne h (by kernel_rfl)).elim) (fun _ _ s=>by cases s <;> kernel_rfl) fun _ _ _=>by kernel_rfl
abbrev X0:=ByteArray→Option ByteArray
noncomputable def QAA (z0:LAI) (z1:SAI) (z2:TAI) (a:ByteArray):Option ByteArray:=
 z0.bind fun r0=>
 (z1 r0 a).bind fun r1=>
 (z2 r1).bind fun r2=>
 some r2
noncomputable def Jf:X0:=QAA Vz O0 U0
theorem UAI:Tells ctx PP 19 cv8 cv8 (fun a=>Jf a):=fz0 (cc0 PAO (cc2 WAO (cc1 YAO cn))) Tryz.func19 [] (fun z a=>QAA z.1 z.2.1 z.2.2.1 a) fun _ _=>by kernel_rfl
abbrev Rf:=Int→Option ByteArray
noncomputable def RAA (a:Int):Option ByteArray:=
 bif (a.tmod 256)<0 then
 some (ofBytes [(w8 (w64 ((a.tmod 256)+256)))])
 else
 some (ofBytes [(w8 (a.tmod 256))])
noncomputable def Ic:Rf:=RAA
theorem Ls:Tells ctx PP 74 cv1 cv8 (fun a=>Ic a):=fz0 cn Tryz.func74 [] (fun _ a=>RAA a) fun _ _=>by kernel_rfl
abbrev Y0:=ByteArray→Option (List Int)
inductive Ns where
 | c0 (a:ByteArray) (b:Int) (d:(List Int))
 | c1 (a:ByteArray) (b e f:Int) (d:(List Int))
noncomputable def ZAO:Ns→LI
 | .c0 a b d=>(tdo Tryz.f220 464,[(0,[.one (.str a)]),(3,[.one (.own 240)]),(4,[.one (.int .i64 b)])],[(240,.sl 253 d)])
 | .c1 a b e f d=>(tdo Tryz.f220 119376,[(0,[.one (.str a)]),(3,[.one (.own 240)]),(4,[.one (.int .i64 b)]),(5,[.one (.int .u64 e)]),(6,[.one (.int .i64 f)])],[(240,.sl 253 d)])
noncomputable def SAA (k:Ns→Option (List Int)) (a:ByteArray):Option (List Int):=
 k (.c0 a 0 [])
noncomputable def Ym (k:Ns→Option (List Int)):Ns→Option (List Int)
 | .c0 b a d=>
 bif (w64 (a+8))≤(b.size:Int) then
  k (.c1 b a 0 7 d)
 else
  some d
 | .c1 b a f e d=>
 bif e≥0 then
  bif 0≤(w64 (a+e))&&(w64 (a+e))<(b.size:Int) then
  k (.c1 b a (wu64 ((wu64 (f*256))+(wu64 (bt b (w64 (a+e)))))) (w64 (e - 1)) d)
  else none
 else
  bif ((d.length+1)*8)≤140737488355328 then
  k (.c0 b (w64 (a+8)) (d++[f]))
  else none
noncomputable def Tf:Nat→Ns→Option (List Int)
 | 0,_=>none
 | m+1,s=>Ym (Tf m) s
noncomputable def Zm:Y0:=SAA (Tf gas)
theorem VAI:Tells ctx PP 220 cv8 cv16 (fun a=>Zm a):=fz cn Tryz.func220 [] ZAO (fun _=>Ym) (fun _ k a=>SAA k a) Tf gas (fun s s' h=>by cases s <;> cases s' <;> first | (cases h;done) | (cases h;rfl) | exact (rg_ne h (by kernel_rfl)).elim) (fun _ _ s=>by cases s <;> kernel_rfl) fun _ _ _=>by kernel_rfl
abbrev TAA:=Option (List Int)
inductive Qs where
 | c0 (a b d:Int) (e:(List Int))
noncomputable def AAP:Qs→LI
 | .c0 a b d e=>(tdo Tryz.f236 2000,[(1,[.one (.own 112)]),(2,[.one (.int .i64 a)]),(3,[.one (.int .i64 b)]),(4,[.one (.int .i64 d)])],[(112,.sl 3 e)])
noncomputable def UAA (k:Qs→Option (List Int))  : Option (List Int):=
 k (.c0 1 0 0 (List.replicate (25:Int).toNat (0:Int)))
noncomputable def WAI (k:Qs→Option (List Int)):Qs→Option (List Int)
 | .c0 b a d e=>
 bif d<24 then
  bif 0≤(w64 (b+(w64 (5*a))))&&(w64 (b+(w64 (5*a))))<(e.length:Int) then
  k (.c0 a ((w64 ((w64 (2*b))+(w64 (3*a)))).tmod 5) (w64 (d+1)) (e.set (w64 (b+(w64 (5*a)))).toNat ((w64 ((w64 ((w64 (d+1))*(w64 (d+2)))).tdiv 2)).tmod 64)))
  else none
 else
  some e
noncomputable def VAA:Nat→Qs→Option (List Int)
 | 0,_=>none
 | m+1,s=>WAI (VAA m) s
noncomputable def Us:TAA:=UAA (VAA gas)
theorem BAP:Tells ctx PP 236 cv5 cv17 (fun _=>Us):=fz cn Tryz.func236 [] AAP (fun _=>WAI) (fun _ k _=>UAA k) VAA gas (fun s s' h=>by cases s;cases s';cases h;rfl) (fun _ _ s=>by cases s <;> kernel_rfl) fun _ _ _=>by kernel_rfl
abbrev WAA:=Option (List Int)
inductive Vs where
 | c0 (a b:Int) (d:(List Int))
 | c1 (a b:Int) (e f g:Int) (d:(List Int))
noncomputable def CAP:Vs→LI
 | .c0 a b d=>(tdo Tryz.f237 976,[(1,[.one (.own 112)]),(2,[.one (.int .i64 a)]),(3,[.one (.int .i64 b)])],[(112,.sl 253 d)])
 | .c1 a b e f g d=>(tdo Tryz.f237 500944,[(1,[.one (.own 112)]),(2,[.one (.int .i64 a)]),(3,[.one (.int .i64 b)]),(4,[.one (.int .u64 e)]),(5,[.one (.int .u64 f)]),(6,[.one (.int .i64 g)])],[(112,.sl 253 d)])
noncomputable def XAA (k:Vs→Option (List Int))  : Option (List Int):=
 k (.c0 1 0 [])
noncomputable def XAI (k:Vs→Option (List Int)):Vs→Option (List Int)
 | .c0 a e d=>
 bif e<24 then
  k (.c1 a e 0 1 0 d)
 else
  some d
 | .c1 a e f b g d=>
 bif g<7 then
  bif ((a.tmod 2) == 1) then
  bif (w64 (a*2))≥256 then
   k (.c1 (w64 (((BitVec.toNat ((BitVec.ofInt (IntKind.bits IntKind.i64) (w64 ((w64 (a*2)) - 256))) ^^^ (BitVec.ofInt (IntKind.bits IntKind.i64) 113))):Nat):Int)) e (wu64 (f+b)) (wu64 ((wu64 (b*b))*2)) (w64 (g+1)) d)
  else
   k (.c1 (w64 (a*2)) e (wu64 (f+b)) (wu64 ((wu64 (b*b))*2)) (w64 (g+1)) d)
  else
  bif (w64 (a*2))≥256 then
   k (.c1 (w64 (((BitVec.toNat ((BitVec.ofInt (IntKind.bits IntKind.i64) (w64 ((w64 (a*2)) - 256))) ^^^ (BitVec.ofInt (IntKind.bits IntKind.i64) 113))):Nat):Int)) e f (wu64 ((wu64 (b*b))*2)) (w64 (g+1)) d)
  else
   k (.c1 (w64 (a*2)) e f (wu64 ((wu64 (b*b))*2)) (w64 (g+1)) d)
 else
  bif ((d.length+1)*8)≤140737488355328 then
  k (.c0 a (w64 (e+1)) (d++[f]))
  else none
noncomputable def YAA:Nat→Vs→Option (List Int)
 | 0,_=>none
 | m+1,s=>XAI (YAA m) s
noncomputable def Ws:WAA:=XAA (YAA gas)
theorem DAP:Tells ctx PP 237 cv5 cv16 (fun _=>Ws):=fz cn Tryz.func237 [] CAP (fun _=>XAI) (fun _ k _=>XAA k) YAA gas (fun s s' h=>by cases s <;> cases s' <;> first | (cases h;done) | (cases h;rfl) | exact (rg_ne h (by kernel_rfl)).elim) (fun _ _ s=>by cases s <;> kernel_rfl) fun _ _ _=>by kernel_rfl
abbrev ZAA:=Int→Int→Option Int
inductive Dt where
 | c0 (a b:Int) (d e:Int)
noncomputable def EAP:Dt→LI
 | .c0 a b d e=>(tdo Tryz.f259 464,[(0,[.one (.int .u64 a)]),(1,[.one (.int .i64 b)]),(5,[.one (.int .u64 d)]),(6,[.one (.int .i64 e)])],[])
noncomputable def AAB (k:Dt→Option Int) (a:Int) (b:Int):Option Int:=
 k (.c0 a b 1 0)
noncomputable def O1 (k:Dt→Option Int):Dt→Option Int
 | .c0 b d a e=>
 bif e<d then
  k (.c0 b d (wu64 (a*2)) (w64 (e+1)))
 else
  bif (d == 0) then
  some b
  else
  bif (!(a == 0)) then
  bif (!((wu64 ((wu64 ((9223372036854775808:Int).tdiv a))*2)) == 0)) then
  some (wu64 ((wu64 (b*a))+(wu64 (b.tdiv (wu64 ((wu64 ((9223372036854775808:Int).tdiv a))*2))))))
  else none
  else none
noncomputable def Dn:Nat→Dt→Option Int
 | 0,_=>none
 | m+1,s=>O1 (Dn m) s
noncomputable def En:ZAA:=AAB (Dn gas)
theorem FAP:Tells ctx PP 259 cv18 cv19 (fun a=>En a.1 a.2):=fz cn Tryz.func259 [] EAP (fun _=>O1) (fun _ k a=>AAB k a.1 a.2) Dn gas (fun s s' h=>by cases s;cases s';cases h;rfl) (fun _ _ s=>by cases s <;> kernel_rfl) fun _ _ _=>by kernel_rfl
abbrev BAB:=(List Int)→(List Int)→Int→Option (List Int)
inductive Et where
 | c0 (d e:(List Int)) (a j:Int) (f:(List Int))
 | c1 (d e:(List Int)) (a g:Int) (f b:(List Int))
 | c2 (d e:(List Int)) (a g:Int) (n o:Int) (f b:(List Int))
 | c3 (a h:Int) (b i:(List Int))
 | c4 (a h p:Int) (b i:(List Int))
noncomputable def HAP:Et→LI
 | .c0 d e a j f=>(tdo Tryz.f238 464,[(0,[.one (.rsl 253 d)]),(1,[.one (.rsl 3 e)]),(2,[.one (.int .u64 a)]),(7,[.one (.own 496)]),(8,[.one (.int .i64 j)])],[(496,.sl 253 f)])
 | .c1 d e a g f b=>(tdo Tryz.f238 2000,[(0,[.one (.rsl 253 d)]),(1,[.one (.rsl 3 e)]),(2,[.one (.int .u64 a)]),(7,[.one (.own 496)]),(9,[.one (.own 624)]),(10,[.one (.int .i64 g)])],[(496,.sl 253 f),(624,.sl 253 b)])
 | .c2 d e a g n o f b=>(tdo Tryz.f238 256304,[(0,[.one (.rsl 253 d)]),(1,[.one (.rsl 3 e)]),(2,[.one (.int .u64 a)]),(7,[.one (.own 496)]),(9,[.one (.own 624)]),(10,[.one (.int .i64 g)]),(11,[.one (.int .u64 n)]),(12,[.one (.int .i64 o)])],[(496,.sl 253 f),(624,.sl 253 b)])
 | .c3 a h b i=>(tdo Tryz.f238 8144,[(2,[.one (.int .u64 a)]),(9,[.one (.own 624)]),(13,[.one (.own 880)]),(14,[.one (.int .i64 h)])],[(624,.sl 253 b),(880,.sl 253 i)])
 | .c4 a h p b i=>(tdo Tryz.f238 521360,[(2,[.one (.int .u64 a)]),(9,[.one (.own 624)]),(13,[.one (.own 880)]),(14,[.one (.int .i64 h)]),(15,[.one (.int .i64 p)])],[(624,.sl 253 b),(880,.sl 253 i)])
noncomputable def CAB (z0:ZAA) (k:Et→Option (List Int)) (a:(List Int)) (b:(List Int)) (d:Int):Option (List Int):=
 k (.c0 a b d 0 [0,0,0,0,0])
noncomputable def Ce (z0:ZAA) (k:Et→Option (List Int)):Et→Option (List Int)
 | .c0 d n g a j=>
 bif a<5 then
  bif 0≤a&&a<(d.length:Int) then
  bif 0≤(w64 (a+5))&&(w64 (a+5))<(d.length:Int) then
  bif 0≤(w64 (a+10))&&(w64 (a+10))<(d.length:Int) then
  bif 0≤(w64 (a+15))&&(w64 (a+15))<(d.length:Int) then
  bif 0≤(w64 (a+20))&&(w64 (a+20))<(d.length:Int) then
  bif 0≤a&&a<(j.length:Int) then
  k (.c0 d n g (w64 (a+1)) (j.set a.toNat (wu64 (((BitVec.toNat ((BitVec.ofInt (IntKind.bits IntKind.u64) (wu64 (((BitVec.toNat ((BitVec.ofInt (IntKind.bits IntKind.u64) (wu64 (((BitVec.toNat ((BitVec.ofInt (IntKind.bits IntKind.u64) (wu64 (((BitVec.toNat ((BitVec.ofInt (IntKind.bits IntKind.u64) (d.getD a.toNat 0)) ^^^ (BitVec.ofInt (IntKind.bits IntKind.u64) (d.getD (w64 (a+5)).toNat 0)))):Nat):Int))) ^^^ (BitVec.ofInt (IntKind.bits IntKind.u64) (d.getD (w64 (a+10)).toNat 0)))):Nat):Int))) ^^^ (BitVec.ofInt (IntKind.bits IntKind.u64) (d.getD (w64 (a+15)).toNat 0)))):Nat):Int))) ^^^ (BitVec.ofInt (IntKind.bits IntKind.u64) (d.getD (w64 (a+20)).toNat 0)))):Nat):Int))))
  else none
  else none
  else none
  else none
  else none
  else none
 else
  k (.c1 d n g 0 j (List.replicate (25:Int).toNat (0:Int)))
 | .c1 d n g b j e=>
 bif b<5 then
  bif 0≤((w64 (b+4)).tmod 5)&&((w64 (b+4)).tmod 5)<(j.length:Int) then
  bif 0≤((w64 (b+1)).tmod 5)&&((w64 (b+1)).tmod 5)<(j.length:Int) then
  (z0 (j.getD ((w64 (b+1)).tmod 5).toNat 0) 1).bind fun r0=>
  k (.c2 d n g b (wu64 (((BitVec.toNat ((BitVec.ofInt (IntKind.bits IntKind.u64) (j.getD ((w64 (b+4)).tmod 5).toNat 0)) ^^^ (BitVec.ofInt (IntKind.bits IntKind.u64) r0))):Nat):Int)) 0 j e)
  else none
  else none
 else
  k (.c3 g 0 e (List.replicate (25:Int).toNat (0:Int)))
 | .c2 d n g b p h j e=>
 bif h<5 then
  bif 0≤(w64 (b+(w64 (5*h))))&&(w64 (b+(w64 (5*h))))<(d.length:Int) then
  bif 0≤(w64 (b+(w64 (5*h))))&&(w64 (b+(w64 (5*h))))<(n.length:Int) then
  (z0 (wu64 (((BitVec.toNat ((BitVec.ofInt (IntKind.bits IntKind.u64) (d.getD (w64 (b+(w64 (5*h)))).toNat 0)) ^^^ (BitVec.ofInt (IntKind.bits IntKind.u64) p))):Nat):Int)) (n.getD (w64 (b+(w64 (5*h)))).toNat 0)).bind fun r0=>
  bif 0≤(w64 (h+(w64 (5*((w64 ((w64 (2*b))+(w64 (3*h)))).tmod 5)))))&&(w64 (h+(w64 (5*((w64 ((w64 (2*b))+(w64 (3*h)))).tmod 5)))))<(e.length:Int) then
  k (.c2 d n g b p (w64 (h+1)) j (e.set (w64 (h+(w64 (5*((w64 ((w64 (2*b))+(w64 (3*h)))).tmod 5))))).toNat r0))
  else none
  else none
  else none
 else
  k (.c1 d n g (w64 (b+1)) j e)
 | .c3 g f e o=>
 bif f<5 then
  k (.c4 g f 0 e o)
 else
  bif (0:Int)≤(0:Int)&&0<(o.length:Int) then
  bif (0:Int)≤(0:Int)&&0<(o.length:Int) then
  some (o.set (0:Int).toNat (wu64 (((BitVec.toNat ((BitVec.ofInt (IntKind.bits IntKind.u64) (o.getD (0:Int).toNat 0)) ^^^ (BitVec.ofInt (IntKind.bits IntKind.u64) g))):Nat):Int)))
  else none
  else none
 | .c4 g f i e o=>
 bif i<5 then
  bif 0≤(w64 (f+(w64 (5*i))))&&(w64 (f+(w64 (5*i))))<(e.length:Int) then
  bif 0≤(w64 (((w64 (f+1)).tmod 5)+(w64 (5*i))))&&(w64 (((w64 (f+1)).tmod 5)+(w64 (5*i))))<(e.length:Int) then
  bif 0≤(w64 (((w64 (f+2)).tmod 5)+(w64 (5*i))))&&(w64 (((w64 (f+2)).tmod 5)+(w64 (5*i))))<(e.length:Int) then
  bif 0≤(w64 (f+(w64 (5*i))))&&(w64 (f+(w64 (5*i))))<(o.length:Int) then
  k (.c4 g f (w64 (i+1)) e (o.set (w64 (f+(w64 (5*i)))).toNat (wu64 (((BitVec.toNat ((BitVec.ofInt (IntKind.bits IntKind.u64) (e.getD (w64 (f+(w64 (5*i)))).toNat 0)) ^^^ (BitVec.ofInt (IntKind.bits IntKind.u64) (wu64 (((BitVec.toNat ((BitVec.ofInt (IntKind.bits IntKind.u64) (wu64 (18446744073709551615 - (e.getD (w64 (((w64 (f+1)).tmod 5)+(w64 (5*i)))).toNat 0)))) &&& (BitVec.ofInt (IntKind.bits IntKind.u64) (e.getD (w64 (((w64 (f+2)).tmod 5)+(w64 (5*i)))).toNat 0)))):Nat):Int))))):Nat):Int))))
  else none
  else none
  else none
  else none
 else
  k (.c3 g (w64 (f+1)) e o)
noncomputable def Nb:Nat→Et→Option (List Int)
 | 0,_=>none
 | m+1,s=>Ce En (Nb m) s
noncomputable def Gt:BAB:=CAB En (Nb gas)
theorem IAP:Tells ctx PP 238 cv20 cv16 (fun a=>Gt a.1 a.2.1 a.2.2):=fz (cc2 FAP cn) Tryz.func238 [] HAP (fun z=>Ce z.1) (fun z k a=>CAB z.1 k a.1 a.2.1 a.2.2) Nb gas (fun s s' h=>by cases s <;> cases s' <;> first | (cases h;done) | (cases h;rfl) | exact (rg_ne h (by kernel_rfl)).elim) (fun _ _ s=>by cases s <;> kernel_rfl) fun _ _ _=>by kernel_rfl
abbrev U1:=(List Int)→Option (List Int)
inductive Ht where
 | c0 (a:Int) (b d e:(List Int))
noncomputable def JAP:Ht→LI
 | .c0 a b d e=>(tdo Tryz.f221 976,[(0,[.one (.own 48)]),(3,[.one (.own 240)]),(4,[.one (.own 304)]),(5,[.one (.int .i64 a)])],[(48,.sl 253 b),(240,.sl 3 d),(304,.sl 253 e)])
noncomputable def DAB (z0:TAA) (z1:WAA) (z2:BAB) (k:Ht→Option (List Int)) (a:(List Int)):Option (List Int):=
 z0.bind fun r0=>
 z1.bind fun r1=>
 k (.c0 0 a r0 r1)
noncomputable def Y1 (z0:TAA) (z1:WAA) (z2:BAB) (k:Ht→Option (List Int)):Ht→Option (List Int)
 | .c0 a d e b=>
 bif a<24 then
  bif 0≤a&&a<(b.length:Int) then
  (z2 d e (b.getD a.toNat 0)).bind fun r0=>
  k (.c0 (w64 (a+1)) r0 e b)
  else none
 else
  some d
noncomputable def Gn:Nat→Ht→Option (List Int)
 | 0,_=>none
 | m+1,s=>Y1 Us Ws Gt (Gn m) s
noncomputable def Pn:U1:=DAB Us Ws Gt (Gn gas)
theorem YAI:Tells ctx PP 221 cv16 cv16 (fun a=>Pn a):=fz (cc0 BAP (cc0 DAP (cc3 IAP cn))) Tryz.func221 [] JAP (fun z=>Y1 z.1 z.2.1 z.2.2.1) (fun z k a=>DAB z.1 z.2.1 z.2.2.1 k a) Gn gas (fun s s' h=>by cases s;cases s';cases h;rfl) (fun _ _ s=>by cases s <;> kernel_rfl) fun _ _ _=>by kernel_rfl
abbrev U2:=(List Int)→Option ByteArray
inductive Jt where
 | c0 (a:(List Int)) (b:Int) (d:(List Int))
 | c1 (a:(List Int)) (b e f:Int) (d:(List Int))
noncomputable def KAP:Jt→LI
 | .c0 a b d=>(tdo Tryz.f222 464,[(0,[.one (.rsl 253 a)]),(3,[.one (.own 240)]),(4,[.one (.int .i64 b)])],[(240,.sl 5 d)])
 | .c1 a b e f d=>(tdo Tryz.f222 59696,[(0,[.one (.rsl 253 a)]),(3,[.one (.own 240)]),(4,[.one (.int .i64 b)]),(5,[.one (.int .u64 e)]),(6,[.one (.int .i64 f)])],[(240,.sl 5 d)])
noncomputable def EAB (k:Jt→Option ByteArray) (a:(List Int)):Option ByteArray:=
 k (.c0 a 0 [])
noncomputable def Qn (k:Jt→Option ByteArray):Jt→Option ByteArray
 | .c0 b a d=>
 bif a<(b.length:Int) then
  bif 0≤a&&a<(b.length:Int) then
  k (.c1 b a (b.getD a.toNat 0) 0 d)
  else none
 else
  some (ofBytes d)
 | .c1 b a e f d=>
 bif f<8 then
  bif ((d.length+1)*1)≤140737488355328 then
  k (.c1 b a (wu64 (e.tdiv 256)) (w64 (f+1)) (d++[(w8 (e.tmod 256))]))
  else none
 else
  k (.c0 b (w64 (a+1)) d)
noncomputable def Eh:Nat→Jt→Option ByteArray
 | 0,_=>none
 | m+1,s=>Qn (Eh m) s
noncomputable def Rn:U2:=EAB (Eh gas)
theorem ZAI:Tells ctx PP 222 cv21 cv8 (fun a=>Rn a):=fz cn Tryz.func222 [] KAP (fun _=>Qn) (fun _ k a=>EAB k a) Eh gas (fun s s' h=>by cases s <;> cases s' <;> first | (cases h;done) | (cases h;rfl) | exact (rg_ne h (by kernel_rfl)).elim) (fun _ _ s=>by cases s <;> kernel_rfl) fun _ _ _=>by kernel_rfl
abbrev AAJ:=ByteArray→Int→Int→Option ByteArray
inductive Kt where
 | c0 (a:Int) (b d:(List Int))
 | c1 (a e:Int) (b d:(List Int))
 | c2 (a e f:Int) (b d g:(List Int))
noncomputable def LAP:Kt→LI
 | .c0 a b d=>(tdo Tryz.f193 480,[(1,[.one (.int .i64 a)]),(7,[.one (.own 496)]),(8,[.one (.own 560)])],[(496,.sl 253 b),(560,.sl 5 d)])
 | .c1 a e b d=>(tdo Tryz.f193 4048,[(1,[.one (.int .i64 a)]),(7,[.one (.own 496)]),(8,[.one (.own 560)]),(9,[.one (.int .i64 e)])],[(496,.sl 253 b),(560,.sl 5 d)])
 | .c2 a e f b d g=>(tdo Tryz.f193 1036880,[(1,[.one (.int .i64 a)]),(7,[.one (.own 496)]),(8,[.one (.own 560)]),(9,[.one (.int .i64 e)]),(10,[.one (.own 688)]),(11,[.one (.int .i64 f)])],[(496,.sl 253 b),(560,.sl 5 d),(688,.sl 253 g)])
noncomputable def FAB (z0:Y0) (z1:U1) (z2:U2) (k:Kt→Option ByteArray) (a:ByteArray) (b:Int) (d:Int):Option ByteArray:=
 bif a.size≤9223372036854775807 then
 bif (((bytesOf a).length+1)*1)≤140737488355328 then
 k (.c0 b (List.replicate (25:Int).toNat (0:Int)) ((bytesOf a)++[d]))
 else none
 else none
noncomputable def Gi (z0:Y0) (z1:U1) (z2:U2) (k:Kt→Option ByteArray):Kt→Option ByteArray
 | .c0 b e a=>
 bif (!(b == 0)) then
 bif (((a.length:Int).tmod b) != 0) then
  bif ((a.length+1)*1)≤140737488355328 then
  k (.c0 b e (a++[(0:Int)]))
  else none
 else
  bif 0≤(w64 ((a.length:Int) - 1))&&(w64 ((a.length:Int) - 1))<(a.length:Int) then
  bif 0≤(w64 ((a.length:Int) - 1))&&(w64 ((a.length:Int) - 1))<(a.length:Int) then
  k (.c1 b 0 e (a.set (w64 ((a.length:Int) - 1)).toNat (w8 (((BitVec.toNat ((BitVec.ofInt (IntKind.bits IntKind.u8) (a.getD (w64 ((a.length:Int) - 1)).toNat 0)) ^^^ (BitVec.ofInt (IntKind.bits IntKind.u8) 128))):Nat):Int))))
  else none
  else none
 else none
 | .c1 b d e a=>
 bif d<(a.length:Int) then
  bif (((decide (0≤d)) && (decide (d≤(w64 (d+b))))) && (decide ((w64 (d+b))≤(a.length:Int)))) then
  (z0 (ofBytes ((a.drop d.toNat).take ((w64 (d+b)).toNat - d.toNat)))).bind fun r0=>
  k (.c2 b d 0 e a r0)
  else none
 else
  (z2 e).bind fun r1=>
  some r1
 | .c2 b d f e a g=>
 bif f<(g.length:Int) then
  bif 0≤f&&f<(e.length:Int) then
  bif 0≤f&&f<(g.length:Int) then
  bif 0≤f&&f<(e.length:Int) then
  k (.c2 b d (w64 (f+1)) (e.set f.toNat (wu64 (((BitVec.toNat ((BitVec.ofInt (IntKind.bits IntKind.u64) (e.getD f.toNat 0)) ^^^ (BitVec.ofInt (IntKind.bits IntKind.u64) (g.getD f.toNat 0)))):Nat):Int))) a g)
  else none
  else none
  else none
 else
  (z1 e).bind fun r0=>
  k (.c1 b (w64 (d+b)) r0 a)
noncomputable def Jc:Nat→Kt→Option ByteArray
 | 0,_=>none
 | m+1,s=>Gi Zm Pn Rn (Jc m) s
noncomputable def Ot:AAJ:=FAB Zm Pn Rn (Jc gas)
theorem NAP:Tells ctx PP 193 cv22 cv8 (fun a=>Ot a.1 a.2.1 a.2.2):=fz (cc1 VAI (cc1 YAI (cc1 ZAI cn))) Tryz.func193 [] LAP (fun z=>Gi z.1 z.2.1 z.2.2.1) (fun z k a=>FAB z.1 z.2.1 z.2.2.1 k a.1 a.2.1 a.2.2) Jc gas (fun s s' h=>by cases s <;> cases s' <;> first | (cases h;done) | (cases h;rfl) | exact (rg_ne h (by kernel_rfl)).elim) (fun _ _ s=>by cases s <;> kernel_rfl) fun _ _ _=>by kernel_rfl
abbrev Y2:=ByteArray→Option SStream
noncomputable def GAB (z0:AAJ) (a:ByteArray):Option SStream:=
 (z0 a 168 31).bind fun r0=>
 some ⟨r0,0⟩
noncomputable def Tn:Y2:=GAB Ot
theorem BAJ:Tells ctx PP 145 cv8 cv23 (fun a=>Tn a):=fz0 (cc3 NAP cn) Tryz.func145 [] (fun z a=>GAB z.1 a) fun _ _=>by kernel_rfl
abbrev IAB:=ByteArray→Option ByteArray
noncomputable def JAB (z0:Y0) (z1:U1) (z2:U2) (a:ByteArray):Option ByteArray:=
 bif ((a.size:Int) != 200) then
 some a
 else
 (z0 a).bind fun r0=>
 (z1 r0).bind fun r1=>
 (z2 r1).bind fun r2=>
 some r2
noncomputable def Rt:IAB:=JAB Zm Pn Rn
theorem OAP:Tells ctx PP 194 cv8 cv8 (fun a=>Rt a):=fz0 (cc1 VAI (cc1 YAI (cc1 ZAI cn))) Tryz.func194 [] (fun z a=>JAB z.1 z.2.1 z.2.2.1 a) fun _ _=>by kernel_rfl
abbrev J3:=SStream→Int→Option (SStream×ByteArray)
inductive Tt where
 | c0 (a:Int) (b d:SStream) (e:(List Int))
noncomputable def PAP:Tt→LI
 | .c0 d a b e=>(tdo Tryz.f146 480,[(1,[.one (.int .i64 d)]),(2,[.one (.ptr 128 0)]),(4,[.one (.ptr 256 0)]),(6,[.one (.own 432)])],[(128,.var [.str a.fState,.int .i64 a.fAt]),(256,.var [.str b.fState,.int .i64 b.fAt]),(432,.sl 5 e)])
noncomputable def KAB (z0:Ae) (z1:IAB) (k:Tt→Option (SStream×ByteArray)) (a:SStream) (b:Int):Option (SStream×ByteArray):=
 (z0 b 0 4000).bind fun r0=>
 bif (!r0) then
 some (a,⟨#[]⟩)
 else
 bif ((a.fState.size:Int) != 200) then
  some (a,⟨#[]⟩)
 else
  (z0 a.fAt 0 168).bind fun r1=>
  bif (!r1) then
  some (a,⟨#[]⟩)
  else
  k (.c0 b a ⟨⟨#[]⟩,0⟩ [])
noncomputable def LAB (z0:Ae) (z1:IAB) (k:Tt→Option (SStream×ByteArray)):Tt→Option (SStream×ByteArray)
 | .c0 d a e b=>
 bif (b.length:Int)<d then
  bif (a.fAt == 168) then
  (z1 a.fState).bind fun r0=>
  bif (w64 ((168:Int) - (0:Int))) > (w64 (d - (b.length:Int))) then
   bif (((decide ((0:Int)≤(0:Int))) && (decide (0≤(w64 (0+(w64 (d - (b.length:Int)))))))) && (decide ((w64 (0+(w64 (d - (b.length:Int)))))≤(r0.size:Int)))) then
   bif (r0.extract (0:Int).toNat (w64 (0+(w64 (d - (b.length:Int))))).toNat).size≤9223372036854775807 then
   bif ((b.length+(bytesOf (r0.extract (0:Int).toNat (w64 (0+(w64 (d - (b.length:Int))))).toNat)).length)*1)≤140737488355328 then
   k (.c0 d ⟨r0,(w64 (0+(w64 (d - (b.length:Int)))))⟩ e (b++(bytesOf (r0.extract (0:Int).toNat (w64 (0+(w64 (d - (b.length:Int))))).toNat))))
   else none
   else none
   else none
  else
   bif (((decide ((0:Int)≤(0:Int))) && (decide (0≤(w64 (0+(w64 ((168:Int) - (0:Int)))))))) && (decide ((w64 (0+(w64 ((168:Int) - (0:Int)))))≤(r0.size:Int)))) then
   bif (r0.extract (0:Int).toNat (w64 (0+(w64 ((168:Int) - (0:Int))))).toNat).size≤9223372036854775807 then
   bif ((b.length+(bytesOf (r0.extract (0:Int).toNat (w64 (0+(w64 ((168:Int) - (0:Int))))).toNat)).length)*1)≤140737488355328 then
   k (.c0 d ⟨r0,(w64 (0+(w64 ((168:Int) - (0:Int)))))⟩ e (b++(bytesOf (r0.extract (0:Int).toNat (w64 (0+(w64 ((168:Int) - (0:Int))))).toNat))))
   else none
   else none
   else none
  else
  bif (w64 (168 - a.fAt)) > (w64 (d - (b.length:Int))) then
   bif (((decide (0≤a.fAt)) && (decide (a.fAt≤(w64 (a.fAt+(w64 (d - (b.length:Int)))))))) && (decide ((w64 (a.fAt+(w64 (d - (b.length:Int)))))≤(a.fState.size:Int)))) then
   bif (a.fState.extract a.fAt.toNat (w64 (a.fAt+(w64 (d - (b.length:Int))))).toNat).size≤9223372036854775807 then
   bif ((b.length+(bytesOf (a.fState.extract a.fAt.toNat (w64 (a.fAt+(w64 (d - (b.length:Int))))).toNat)).length)*1)≤140737488355328 then
   k (.c0 d ⟨a.fState,(w64 (a.fAt+(w64 (d - (b.length:Int)))))⟩ e (b++(bytesOf (a.fState.extract a.fAt.toNat (w64 (a.fAt+(w64 (d - (b.length:Int))))).toNat))))
   else none
   else none
   else none
  else
   bif (((decide (0≤a.fAt)) && (decide (a.fAt≤(w64 (a.fAt+(w64 (168 - a.fAt))))))) && (decide ((w64 (a.fAt+(w64 (168 - a.fAt))))≤(a.fState.size:Int)))) then
   bif (a.fState.extract a.fAt.toNat (w64 (a.fAt+(w64 (168 - a.fAt)))).toNat).size≤9223372036854775807 then
   bif ((b.length+(bytesOf (a.fState.extract a.fAt.toNat (w64 (a.fAt+(w64 (168 - a.fAt)))).toNat)).length)*1)≤140737488355328 then
   k (.c0 d ⟨a.fState,(w64 (a.fAt+(w64 (168 - a.fAt))))⟩ e (b++(bytesOf (a.fState.extract a.fAt.toNat (w64 (a.fAt+(w64 (168 - a.fAt)))).toNat))))
   else none
   else none
   else none
 else
  some (a,(ofBytes b))
noncomputable def Un:Nat→Tt→Option (SStream×ByteArray)
 | 0,_=>none
 | m+1,s=>LAB Ed Rt (Un m) s
noncomputable def Xj:J3:=KAB Ed Rt (Un gas)
theorem CAJ:Tells ctx PP 146 cv24 cv25 (fun a=>Xj a.1 a.2):=fz (cc3 Tj (cc1 OAP cn)) Tryz.func146 [] PAP (fun z=>LAB z.1 z.2.1) (fun z k a=>KAB z.1 z.2.1 k a.1 a.2) Un gas (fun s s' h=>by cases s;cases s';(repeat cases ‹SStream›);cases h;rfl) (fun _ _ s=>by cases s <;> kernel_rfl) fun _ _ _=>by kernel_rfl
abbrev MAB:=ByteArray→Int→Int→Option (List Int)
inductive Ut where
 | c0 (b:ByteArray) (d:Int) (e:SStream) (a:(List Int))
 | c1 (a:(List Int))
noncomputable def QAP:Ut→LI
 | .c0 d e b a=>(tdo Tryz.f98 2000,[(7,[.one (.own 496)]),(8,[.one (.ptr 512 0)]),(9,[.one (.str d)]),(10,[.one (.int .i64 e)])],[(512,.var [.str b.fState,.int .i64 b.fAt]),(496,.sl 3 a)])
 | .c1 a=>(tdo Tryz.f98 2016,[(7,[.one (.own 496)])],[(496,.sl 3 a)])
noncomputable def NAB (z0:Rf) (z1:Y2) (z2:J3) (k:Ut→Option (List Int)) (a:ByteArray) (b:Int) (d:Int):Option (List Int):=
 (z0 b).bind fun r0=>
 bif (a.size+r0.size)≤9223372036854775807 then
 (z0 d).bind fun r1=>
 bif ((a++r0).size+r1.size)≤9223372036854775807 then
 (z1 ((a++r0)++r1)).bind fun r2=>
 k (.c0 ⟨#[]⟩ 0 r2 [])
 else none
 else none
noncomputable def O3 (z0:Rf) (z1:Y2) (z2:J3) (k:Ut→Option (List Int)):Ut→Option (List Int)
 | .c0 b a e d=>
 bif a<4000 then
  bif (d.length:Int)<256 then
  bif ((w64 ((a.tmod 56)*3)) == 0) then
   (z2 e 168).bind fun r0=>
   bif 0≤(w64 ((a.tmod 56)*3))&&(w64 ((a.tmod 56)*3))<(r0.2.size:Int) then
   bif 0≤(w64 ((w64 ((a.tmod 56)*3))+1))&&(w64 ((w64 ((a.tmod 56)*3))+1))<(r0.2.size:Int) then
   bif 0≤(w64 ((w64 ((a.tmod 56)*3))+1))&&(w64 ((w64 ((a.tmod 56)*3))+1))<(r0.2.size:Int) then
   bif 0≤(w64 ((w64 ((a.tmod 56)*3))+2))&&(w64 ((w64 ((a.tmod 56)*3))+2))<(r0.2.size:Int) then
   bif (w64 ((w64 (bt r0.2 (w64 ((a.tmod 56)*3))))+(w64 (256*((w64 (bt r0.2 (w64 ((w64 ((a.tmod 56)*3))+1)))).tmod 16)))))<3329 then
   bif ((d.length+1)*8)≤140737488355328 then
   bif (w64 ((w64 ((w64 (bt r0.2 (w64 ((w64 ((a.tmod 56)*3))+1)))).tdiv 16))+(w64 (16*(w64 (bt r0.2 (w64 ((w64 ((a.tmod 56)*3))+2))))))))<3329 then
    bif ((d++[(w64 ((w64 (bt r0.2 (w64 ((a.tmod 56)*3))))+(w64 (256*((w64 (bt r0.2 (w64 ((w64 ((a.tmod 56)*3))+1)))).tmod 16)))))]).length:Int)<256 then
    bif (((d++[(w64 ((w64 (bt r0.2 (w64 ((a.tmod 56)*3))))+(w64 (256*((w64 (bt r0.2 (w64 ((w64 ((a.tmod 56)*3))+1)))).tmod 16)))))]).length+1)*8)≤140737488355328 then
    k (.c0 r0.2 (w64 (a+1)) r0.1 ((d++[(w64 ((w64 (bt r0.2 (w64 ((a.tmod 56)*3))))+(w64 (256*((w64 (bt r0.2 (w64 ((w64 ((a.tmod 56)*3))+1)))).tmod 16)))))])++[(w64 ((w64 ((w64 (bt r0.2 (w64 ((w64 ((a.tmod 56)*3))+1)))).tdiv 16))+(w64 (16*(w64 (bt r0.2 (w64 ((w64 ((a.tmod 56)*3))+2))))))))]))
    else none
    else
    k (.c0 r0.2 (w64 (a+1)) r0.1 (d++[(w64 ((w64 (bt r0.2 (w64 ((a.tmod 56)*3))))+(w64 (256*((w64 (bt r0.2 (w64 ((w64 ((a.tmod 56)*3))+1)))).tmod 16)))))]))
   else
    k (.c0 r0.2 (w64 (a+1)) r0.1 (d++[(w64 ((w64 (bt r0.2 (w64 ((a.tmod 56)*3))))+(w64 (256*((w64 (bt r0.2 (w64 ((w64 ((a.tmod 56)*3))+1)))).tmod 16)))))]))
   else none
   else
   bif (w64 ((w64 ((w64 (bt r0.2 (w64 ((w64 ((a.tmod 56)*3))+1)))).tdiv 16))+(w64 (16*(w64 (bt r0.2 (w64 ((w64 ((a.tmod 56)*3))+2))))))))<3329 then
    bif (d.length:Int)<256 then
    bif ((d.length+1)*8)≤140737488355328 then
    k (.c0 r0.2 (w64 (a+1)) r0.1 (d++[(w64 ((w64 ((w64 (bt r0.2 (w64 ((w64 ((a.tmod 56)*3))+1)))).tdiv 16))+(w64 (16*(w64 (bt r0.2 (w64 ((w64 ((a.tmod 56)*3))+2))))))))]))
    else none
    else
    k (.c0 r0.2 (w64 (a+1)) r0.1 d)
   else
    k (.c0 r0.2 (w64 (a+1)) r0.1 d)
   else none
   else none
   else none
   else none
  else
   bif 0≤(w64 ((a.tmod 56)*3))&&(w64 ((a.tmod 56)*3))<(b.size:Int) then
   bif 0≤(w64 ((w64 ((a.tmod 56)*3))+1))&&(w64 ((w64 ((a.tmod 56)*3))+1))<(b.size:Int) then
   bif 0≤(w64 ((w64 ((a.tmod 56)*3))+1))&&(w64 ((w64 ((a.tmod 56)*3))+1))<(b.size:Int) then
   bif 0≤(w64 ((w64 ((a.tmod 56)*3))+2))&&(w64 ((w64 ((a.tmod 56)*3))+2))<(b.size:Int) then
   bif (w64 ((w64 (bt b (w64 ((a.tmod 56)*3))))+(w64 (256*((w64 (bt b (w64 ((w64 ((a.tmod 56)*3))+1)))).tmod 16)))))<3329 then
   bif ((d.length+1)*8)≤140737488355328 then
   bif (w64 ((w64 ((w64 (bt b (w64 ((w64 ((a.tmod 56)*3))+1)))).tdiv 16))+(w64 (16*(w64 (bt b (w64 ((w64 ((a.tmod 56)*3))+2))))))))<3329 then
    bif ((d++[(w64 ((w64 (bt b (w64 ((a.tmod 56)*3))))+(w64 (256*((w64 (bt b (w64 ((w64 ((a.tmod 56)*3))+1)))).tmod 16)))))]).length:Int)<256 then
    bif (((d++[(w64 ((w64 (bt b (w64 ((a.tmod 56)*3))))+(w64 (256*((w64 (bt b (w64 ((w64 ((a.tmod 56)*3))+1)))).tmod 16)))))]).length+1)*8)≤140737488355328 then
    k (.c0 b (w64 (a+1)) e ((d++[(w64 ((w64 (bt b (w64 ((a.tmod 56)*3))))+(w64 (256*((w64 (bt b (w64 ((w64 ((a.tmod 56)*3))+1)))).tmod 16)))))])++[(w64 ((w64 ((w64 (bt b (w64 ((w64 ((a.tmod 56)*3))+1)))).tdiv 16))+(w64 (16*(w64 (bt b (w64 ((w64 ((a.tmod 56)*3))+2))))))))]))
    else none
    else
    k (.c0 b (w64 (a+1)) e (d++[(w64 ((w64 (bt b (w64 ((a.tmod 56)*3))))+(w64 (256*((w64 (bt b (w64 ((w64 ((a.tmod 56)*3))+1)))).tmod 16)))))]))
   else
    k (.c0 b (w64 (a+1)) e (d++[(w64 ((w64 (bt b (w64 ((a.tmod 56)*3))))+(w64 (256*((w64 (bt b (w64 ((w64 ((a.tmod 56)*3))+1)))).tmod 16)))))]))
   else none
   else
   bif (w64 ((w64 ((w64 (bt b (w64 ((w64 ((a.tmod 56)*3))+1)))).tdiv 16))+(w64 (16*(w64 (bt b (w64 ((w64 ((a.tmod 56)*3))+2))))))))<3329 then
    bif (d.length:Int)<256 then
    bif ((d.length+1)*8)≤140737488355328 then
    k (.c0 b (w64 (a+1)) e (d++[(w64 ((w64 ((w64 (bt b (w64 ((w64 ((a.tmod 56)*3))+1)))).tdiv 16))+(w64 (16*(w64 (bt b (w64 ((w64 ((a.tmod 56)*3))+2))))))))]))
    else none
    else
    k (.c0 b (w64 (a+1)) e d)
   else
    k (.c0 b (w64 (a+1)) e d)
   else none
   else none
   else none
   else none
  else
  k (.c1 d)
 else
  k (.c1 d)
 | .c1 d=>
 bif (d.length:Int)<256 then
  bif ((d.length+1)*8)≤140737488355328 then
  k (.c1 (d++[(0:Int)]))
  else none
 else
  some d
noncomputable def Uf:Nat→Ut→Option (List Int)
 | 0,_=>none
 | m+1,s=>O3 Ic Tn Xj (Uf m) s
noncomputable def Fh:MAB:=NAB Ic Tn Xj (Uf gas)
theorem RAP:Tells ctx PP 98 cv26 cv17 (fun a=>Fh a.1 a.2.1 a.2.2):=fz (cc1 Ls (cc1 BAJ (cc2 CAJ cn))) Tryz.func98 [] QAP (fun z=>O3 z.1 z.2.1 z.2.2.1) (fun z k a=>NAB z.1 z.2.1 z.2.2.1 k a.1 a.2.1 a.2.2) Uf gas (fun s s' h=>by cases s <;> cases s' <;> first | ((repeat cases ‹SStream›);cases h;done) | ((repeat cases ‹SStream›);cases h;rfl) | exact (rg_ne h (by kernel_rfl)).elim) (fun _ _ s=>by cases s <;> kernel_rfl) fun _ _ _=>by kernel_rfl
abbrev OAB:=ByteArray→Option (List (List Int))
inductive Vt where
 | c0 (a:ByteArray) (b:Int) (d:(List (List Int)))
 | c1 (a:ByteArray) (b e:Int) (d:(List (List Int)))
noncomputable def SAP:Vt→LI
 | .c0 a b d=>(tdo Tryz.f53 464,[(0,[.one (.str a)]),(3,[.one (.own 240)]),(4,[.one (.int .i64 b)])],[(240,.sl 38 d)])
 | .c1 a b e d=>(tdo Tryz.f53 29840,[(0,[.one (.str a)]),(3,[.one (.own 240)]),(4,[.one (.int .i64 b)]),(5,[.one (.int .i64 e)])],[(240,.sl 38 d)])
noncomputable def PAB (z0:MAB) (k:Vt→Option (List (List Int))) (a:ByteArray):Option (List (List Int)):=
 k (.c0 a 0 [])
noncomputable def Qe (z0:MAB) (k:Vt→Option (List (List Int))):Vt→Option (List (List Int))
 | .c0 d a b=>
 bif a<2 then
  k (.c1 d a 0 b)
 else
  some b
 | .c1 d a e b=>
 bif e<2 then
  (z0 d e a).bind fun r0=>
  bif ((b.length+1)*24)≤140737488355328 then
  k (.c1 d a (w64 (e+1)) (b++[r0]))
  else none
 else
  k (.c0 d (w64 (a+1)) b)
noncomputable def Ee:Nat→Vt→Option (List (List Int))
 | 0,_=>none
 | m+1,s=>Qe Fh (Ee m) s
noncomputable def Xt:OAB:=PAB Fh (Ee gas)
theorem TAP:Tells ctx PP 53 cv8 cv27 (fun a=>Xt a):=fz (cc3 RAP cn) Tryz.func53 [] SAP (fun z=>Qe z.1) (fun z k a=>PAB z.1 k a) Ee gas (fun s s' h=>by cases s <;> cases s' <;> first | (cases h;done) | (cases h;rfl) | exact (rg_ne h (by kernel_rfl)).elim) (fun _ _ s=>by cases s <;> kernel_rfl) fun _ _ _=>by kernel_rfl
abbrev QAB:=ByteArray→Int→Option (ByteArray×Bool)
noncomputable def RAB (z0:Ae) (z1:Y2) (z2:J3) (b:ByteArray) (a:Int):Option (ByteArray×Bool):=
 (z0 a 0 4000).bind fun r0=>
 bif (!r0) then
 some (⟨#[]⟩,false)
 else
 (z1 b).bind fun r1=>
 (z2 r1 a).bind fun r2=>
 some (r2.2,true)
noncomputable def Wn:QAB:=RAB Ed Tn Xj
theorem UAP:Tells ctx PP 102 cv10 cv28 (fun a=>Wn a.1 a.2):=fz0 (cc3 Tj (cc1 BAJ (cc2 CAJ cn))) Tryz.func102 [] (fun z a=>RAB z.1 z.2.1 z.2.2.1 a.1 a.2) fun _ _=>by kernel_rfl
abbrev SAB:=ByteArray→Int→Option (List Int)
inductive Yt where
 | c0 (a:ByteArray) (b:Int) (d:(List Int))
noncomputable def VAP:Yt→LI
 | .c0 a b d=>(tdo Tryz.f55 976,[(5,[.one (.own 368)]),(6,[.one (.str a)]),(8,[.one (.int .i64 b)])],[(368,.sl 3 d)])
noncomputable def TAB (z0:Rf) (z1:QAB) (k:Yt→Option (List Int)) (a:ByteArray) (b:Int):Option (List Int):=
 (z0 b).bind fun r0=>
 bif (a.size+r0.size)≤9223372036854775807 then
 (z1 (a++r0) 128).bind fun r1=>
 k (.c0 r1.1 0 [])
 else none
noncomputable def U3 (z0:Rf) (z1:QAB) (k:Yt→Option (List Int)):Yt→Option (List Int)
 | .c0 b a d=>
 bif a<256 then
  bif 0≤(w64 (a.tdiv 2))&&(w64 (a.tdiv 2))<(b.size:Int) then
  bif ((a.tmod 2) == 1) then
  bif ((d.length+1)*8)≤140737488355328 then
  k (.c0 b (w64 (a+1)) (d++[((w64 ((w64 ((w64 ((w64 (((w64 ((w64 (bt b (w64 (a.tdiv 2)))).tdiv 16)).tmod 2)+((w64 ((w64 ((w64 (bt b (w64 (a.tdiv 2)))).tdiv 16)).tdiv 2)).tmod 2))) - ((w64 ((w64 ((w64 (bt b (w64 (a.tdiv 2)))).tdiv 16)).tdiv 4)).tmod 2))) - ((w64 ((w64 ((w64 (bt b (w64 (a.tdiv 2)))).tdiv 16)).tdiv 8)).tmod 2)))+3329)).tmod 3329)]))
  else none
  else
  bif ((d.length+1)*8)≤140737488355328 then
  k (.c0 b (w64 (a+1)) (d++[((w64 ((w64 ((w64 ((w64 (((w64 (bt b (w64 (a.tdiv 2)))).tmod 2)+((w64 ((w64 (bt b (w64 (a.tdiv 2)))).tdiv 2)).tmod 2))) - ((w64 ((w64 (bt b (w64 (a.tdiv 2)))).tdiv 4)).tmod 2))) - ((w64 ((w64 (bt b (w64 (a.tdiv 2)))).tdiv 8)).tmod 2)))+3329)).tmod 3329)]))
  else none
  else none
 else
  some d
noncomputable def Xn:Nat→Yt→Option (List Int)
 | 0,_=>none
 | m+1,s=>U3 Ic Wn (Xn m) s
noncomputable def Gh:SAB:=TAB Ic Wn (Xn gas)
theorem WAP:Tells ctx PP 55 cv10 cv17 (fun a=>Gh a.1 a.2):=fz (cc1 Ls (cc2 UAP cn)) Tryz.func55 [] VAP (fun z=>U3 z.1 z.2.1) (fun z k a=>TAB z.1 z.2.1 k a.1 a.2) Xn gas (fun s s' h=>by cases s;cases s';cases h;rfl) (fun _ _ s=>by cases s <;> kernel_rfl) fun _ _ _=>by kernel_rfl
abbrev Ii:=(List Int)→Option Bool
inductive Zt where
 | c0 (a:(List Int)) (b:Int)
noncomputable def XAP:Zt→LI
 | .c0 a b=>(tdo Tryz.f99 464,[(0,[.one (.rsl 3 a)]),(3,[.one (.int .i64 b)])],[])
noncomputable def UAB (z0:Ae) (k:Zt→Option Bool) (a:(List Int)):Option Bool:=
 bif ((a.length:Int) != 256) then
 some false
 else
 k (.c0 a 0)
noncomputable def V3 (z0:Ae) (k:Zt→Option Bool):Zt→Option Bool
 | .c0 b a=>
 bif a<(b.length:Int) then
  bif 0≤a&&a<(b.length:Int) then
  (z0 (b.getD a.toNat 0) 0 3328).bind fun r0=>
  bif (!r0) then
  some false
  else
  k (.c0 b (w64 (a+1)))
  else none
 else
  some true
noncomputable def Yn:Nat→Zt→Option Bool
 | 0,_=>none
 | m+1,s=>V3 Ed (Yn m) s
noncomputable def Vf:Ii:=UAB Ed (Yn gas)
theorem X3:Tells ctx PP 99 cv29 cv4 (fun a=>Vf a):=fz (cc3 Tj cn) Tryz.func99 [] XAP (fun z=>V3 z.1) (fun z k a=>UAB z.1 k a) Yn gas (fun s s' h=>by cases s;cases s';cases h;rfl) (fun _ _ s=>by cases s <;> kernel_rfl) fun _ _ _=>by kernel_rfl
abbrev Au:=Int→Option Int
inductive Du where
 | c0 (a b d:Int)
noncomputable def YAP:Du→LI
 | .c0 a b d=>(tdo Tryz.f101 2000,[(0,[.one (.int .i64 a)]),(3,[.one (.int .i64 b)]),(4,[.one (.int .i64 d)])],[])
noncomputable def VAB (k:Du→Option Int) (a:Int):Option Int:=
 bif (a.tmod 128)<0 then
 k (.c0 (w64 ((a.tmod 128)+128)) 0 0)
 else
 k (.c0 (a.tmod 128) 0 0)
noncomputable def Y3 (k:Du→Option Int):Du→Option Int
 | .c0 a b d=>
 bif d<7 then
  k (.c0 (w64 (a.tdiv 2)) (w64 ((w64 (2*b))+(a.tmod 2))) (w64 (d+1)))
 else
  some b
noncomputable def Zn:Nat→Du→Option Int
 | 0,_=>none
 | m+1,s=>Y3 (Zn m) s
noncomputable def Yj:Au:=VAB (Zn gas)
theorem DAJ:Tells ctx PP 101 cv1 cv1 (fun a=>Yj a):=fz cn Tryz.func101 [] YAP (fun _=>Y3) (fun _ k a=>VAB k a) Zn gas (fun s s' h=>by cases s;cases s';cases h;rfl) (fun _ _ s=>by cases s <;> kernel_rfl) fun _ _ _=>by kernel_rfl
abbrev Eu:=Int→Int→Option Int
inductive Gu where
 | c0 (a b d:Int)
noncomputable def ZAP:Gu→LI
 | .c0 a b d=>(tdo Tryz.f100 2016,[(0,[.one (.int .i64 a)]),(1,[.one (.int .i64 b)]),(5,[.one (.int .i64 d)])],[])
noncomputable def WAB (z0:Ae) (k:Gu→Option Int) (a:Int) (b:Int):Option Int:=
 (z0 b 0 1000000000).bind fun r0=>
 bif (!r0) then
 some 0
 else
 bif (a.tmod 3329)<0 then
  k (.c0 (w64 ((a.tmod 3329)+3329)) b 1)
 else
  k (.c0 (a.tmod 3329) b 1)
noncomputable def XAB (z0:Ae) (k:Gu→Option Int):Gu→Option Int
 | .c0 a b d=>
 bif b > 0 then
  bif ((b.tmod 2) == 1) then
  k (.c0 ((w64 (a*a)).tmod 3329) (w64 (b.tdiv 2)) ((w64 (d*a)).tmod 3329))
  else
  k (.c0 ((w64 (a*a)).tmod 3329) (w64 (b.tdiv 2)) d)
 else
  some d
noncomputable def Hu:Nat→Gu→Option Int
 | 0,_=>none
 | m+1,s=>XAB Ed (Hu m) s
noncomputable def Zj:Eu:=WAB Ed (Hu gas)
theorem EAJ:Tells ctx PP 100 cv30 cv1 (fun a=>Zj a.1 a.2):=fz (cc3 Tj cn) Tryz.func100 [] ZAP (fun z=>XAB z.1) (fun z k a=>WAB z.1 k a.1 a.2) Hu gas (fun s s' h=>by cases s;cases s';cases h;rfl) (fun _ _ s=>by cases s <;> kernel_rfl) fun _ _ _=>by kernel_rfl
abbrev YAB:=(List Int)→Option (List Int)
inductive Iu where
 | c0 (a b:Int) (d:(List Int))
 | c1 (a b e:Int) (d:(List Int))
 | c2 (a b:Int) (e f g:Int) (d:(List Int))
noncomputable def AAQ:Iu→LI
 | .c0 a b d=>(tdo Tryz.f54 2000,[(3,[.one (.own 240)]),(4,[.one (.int .i64 a)]),(5,[.one (.int .i64 b)])],[(240,.sl 3 d)])
 | .c1 a b e d=>(tdo Tryz.f54 128144,[(3,[.one (.own 240)]),(4,[.one (.int .i64 a)]),(5,[.one (.int .i64 b)]),(6,[.one (.int .i64 e)])],[(240,.sl 3 d)])
 | .c2 a b e f g d=>(tdo Tryz.f54 32805488,[(3,[.one (.own 240)]),(4,[.one (.int .i64 a)]),(5,[.one (.int .i64 b)]),(6,[.one (.int .i64 e)]),(7,[.one (.int .i64 f)]),(8,[.one (.int .i64 g)])],[(240,.sl 3 d)])
noncomputable def ZAB (z0:Ii) (z1:Au) (z2:Eu) (k:Iu→Option (List Int)) (a:(List Int)):Option (List Int):=
 (z0 a).bind fun r0=>
 bif (!r0) then
 some []
 else
 bif ((0+a.length)*8)≤140737488355328 then
 k (.c0 1 128 ([]++a))
 else none
noncomputable def Ji (z0:Ii) (z1:Au) (z2:Eu) (k:Iu→Option (List Int)):Iu→Option (List Int)
 | .c0 e b d=>
 bif b≥2 then
  k (.c1 e b 0 d)
 else
  some d
 | .c1 e b f d=>
 bif f<256 then
  (z1 e).bind fun r0=>
  (z2 17 r0).bind fun r1=>
  k (.c2 (w64 (e+1)) b f r1 f d)
 else
  k (.c0 e (w64 (b.tdiv 2)) d)
 | .c2 e b f g a d=>
 bif a<(w64 (f+b)) then
  bif 0≤(w64 (a+b))&&(w64 (a+b))<(d.length:Int) then
  bif 0≤a&&a<(d.length:Int) then
  bif 0≤(w64 (a+b))&&(w64 (a+b))<(d.length:Int) then
  bif 0≤a&&a<((d.set (w64 (a+b)).toNat ((w64 ((w64 ((d.getD a.toNat 0) - ((w64 (g*(d.getD (w64 (a+b)).toNat 0))).tmod 3329)))+3329)).tmod 3329)).length:Int) then
  bif 0≤a&&a<((d.set (w64 (a+b)).toNat ((w64 ((w64 ((d.getD a.toNat 0) - ((w64 (g*(d.getD (w64 (a+b)).toNat 0))).tmod 3329)))+3329)).tmod 3329)).length:Int) then
  k (.c2 e b f g (w64 (a+1)) ((d.set (w64 (a+b)).toNat ((w64 ((w64 ((d.getD a.toNat 0) - ((w64 (g*(d.getD (w64 (a+b)).toNat 0))).tmod 3329)))+3329)).tmod 3329)).set a.toNat ((w64 (((d.set (w64 (a+b)).toNat ((w64 ((w64 ((d.getD a.toNat 0) - ((w64 (g*(d.getD (w64 (a+b)).toNat 0))).tmod 3329)))+3329)).tmod 3329)).getD a.toNat 0)+((w64 (g*(d.getD (w64 (a+b)).toNat 0))).tmod 3329))).tmod 3329)))
  else none
  else none
  else none
  else none
  else none
 else
  k (.c1 e b (w64 (f+(w64 (2*b)))) d)
noncomputable def Lc:Nat→Iu→Option (List Int)
 | 0,_=>none
 | m+1,s=>Ji Vf Yj Zj (Lc m) s
noncomputable def Bo:YAB:=ZAB Vf Yj Zj (Lc gas)
theorem BAQ:Tells ctx PP 54 cv29 cv17 (fun a=>Bo a):=fz (cc1 X3 (cc1 DAJ (cc2 EAJ cn))) Tryz.func54 [] AAQ (fun z=>Ji z.1 z.2.1 z.2.2.1) (fun z k a=>ZAB z.1 z.2.1 z.2.2.1 k a) Lc gas (fun s s' h=>by cases s <;> cases s' <;> first | (cases h;done) | (cases h;rfl) | exact (rg_ne h (by kernel_rfl)).elim) (fun _ _ s=>by cases s <;> kernel_rfl) fun _ _ _=>by kernel_rfl
abbrev AAC:=Int→Option Int
inductive Ju where
 | c0 (a b d:Int)
noncomputable def CAQ:Ju→LI
 | .c0 a b d=>(tdo Tryz.f147 464,[(0,[.one (.int .i64 a)]),(3,[.one (.int .i64 b)]),(4,[.one (.int .i64 d)])],[])
noncomputable def BAC (k:Ju→Option Int) (a:Int):Option Int:=
 k (.c0 a 1 0)
noncomputable def I4 (k:Ju→Option Int):Ju→Option Int
 | .c0 a b d=>
 bif d<a then
  k (.c0 a (w64 (2*b)) (w64 (d+1)))
 else
  some b
noncomputable def Eo:Nat→Ju→Option Int
 | 0,_=>none
 | m+1,s=>I4 (Eo m) s
noncomputable def Oi:AAC:=BAC (Eo gas)
theorem DAQ:Tells ctx PP 147 cv1 cv1 (fun a=>Oi a):=fz cn Tryz.func147 [] CAQ (fun _=>I4) (fun _ k a=>BAC k a) Eo gas (fun s s' h=>by cases s;cases s';cases h;rfl) (fun _ _ s=>by cases s <;> kernel_rfl) fun _ _ _=>by kernel_rfl
abbrev FAJ:=(List Int)→Int→Option (ByteArray×Bool)
inductive Ku where
 | c0 (a:(List Int)) (b h:Int)
 | c1 (a:(List Int)) (b d:Int) (e f:Int) (g:(List Int))
 | c2 (a:(List Int)) (b d:Int) (e f:Int) (g:(List Int))
noncomputable def EAQ:Ku→LI
 | .c0 a b h=>(tdo Tryz.f103 464,[(0,[.one (.rsl 3 a)]),(1,[.one (.int .i64 b)]),(6,[.one (.int .i64 h)])],[])
 | .c1 a b d e f g=>(tdo Tryz.f103 8144,[(0,[.one (.rsl 3 a)]),(1,[.one (.int .i64 b)]),(7,[.one (.own 496)]),(8,[.one (.int .i64 d)]),(9,[.one (.int .i64 e)]),(10,[.one (.int .i64 f)])],[(496,.sl 5 g)])
 | .c2 a b d e f g=>(tdo Tryz.f103 1042736,[(0,[.one (.rsl 3 a)]),(1,[.one (.int .i64 b)]),(7,[.one (.own 496)]),(8,[.one (.int .i64 d)]),(9,[.one (.int .i64 e)]),(10,[.one (.int .i64 f)])],[(496,.sl 5 g)])
noncomputable def CAC (z0:Ae) (z1:AAC) (k:Ku→Option (ByteArray×Bool)) (b:(List Int)) (a:Int):Option (ByteArray×Bool):=
 (z0 a 1 12).bind fun r0=>
 bif (!r0) then
 some (⟨#[]⟩,false)
 else
 k (.c0 b a 0)
noncomputable def Fe (z0:Ae) (z1:AAC) (k:Ku→Option (ByteArray×Bool)):Ku→Option (ByteArray×Bool)
 | .c0 a b h=>
 bif h<(a.length:Int) then
  bif 0≤h&&h<(a.length:Int) then
  (z1 b).bind fun r0=>
  (z0 (a.getD h.toNat 0) 0 (w64 (r0 - 1))).bind fun r1=>
  bif (!r1) then
  some (⟨#[]⟩,false)
  else
  k (.c0 a b (w64 (h+1)))
  else none
 else
  k (.c1 a b 0 0 0 [])
 | .c1 a b g f d e=>
 bif d<(a.length:Int) then
  bif 0≤d&&d<(a.length:Int) then
  (z1 f).bind fun r0=>
  k (.c2 a b (w64 (g+(w64 ((a.getD d.toNat 0)*r0)))) (w64 (f+b)) d e)
  else none
 else
  bif f > 0 then
  bif ((e.length+1)*1)≤140737488355328 then
  some ((ofBytes (e++[(w8 g)])),true)
  else none
  else
  some ((ofBytes e),true)
 | .c2 a b g f d e=>
 bif f≥8 then
  bif ((e.length+1)*1)≤140737488355328 then
  k (.c2 a b (w64 (g.tdiv 256)) (w64 (f - 8)) d (e++[(w8 (g.tmod 256))]))
  else none
 else
  k (.c1 a b g f (w64 (d+1)) e)
noncomputable def Mc:Nat→Ku→Option (ByteArray×Bool)
 | 0,_=>none
 | m+1,s=>Fe Ed Oi (Mc m) s
noncomputable def J4:FAJ:=CAC Ed Oi (Mc gas)
theorem FAQ:Tells ctx PP 103 cv31 cv28 (fun a=>J4 a.1 a.2):=fz (cc3 Tj (cc1 DAQ cn)) Tryz.func103 [] EAQ (fun z=>Fe z.1 z.2.1) (fun z k a=>CAC z.1 z.2.1 k a.1 a.2) Mc gas (fun s s' h=>by cases s <;> cases s' <;> first | (cases h;done) | (cases h;rfl) | exact (rg_ne h (by kernel_rfl)).elim) (fun _ _ s=>by cases s <;> kernel_rfl) fun _ _ _=>by kernel_rfl
abbrev DAC:=(List Int)→Option ByteArray
noncomputable def EAC (z0:Ii) (z1:FAJ) (a:(List Int)):Option ByteArray:=
 (z0 a).bind fun r0=>
 bif (!r0) then
 some ⟨#[]⟩
 else
 (z1 a 12).bind fun r1=>
 some r1.1
noncomputable def Ak:DAC:=EAC Vf J4
theorem GAQ:Tells ctx PP 56 cv29 cv8 (fun a=>Ak a):=fz0 (cc1 X3 (cc2 FAQ cn)) Tryz.func56 [] (fun z a=>EAC z.1 z.2.1 a) fun _ _=>by kernel_rfl
abbrev FAC:=(List Int)→(List Int)→Option (List Int)
inductive Lu where
 | c0 (a b:(List Int)) (d:Int) (e:(List Int))
noncomputable def HAQ:Lu→LI
 | .c0 a b d e=>(tdo Tryz.f104 976,[(0,[.one (.rsl 3 a)]),(1,[.one (.rsl 3 b)]),(5,[.one (.own 368)]),(6,[.one (.int .i64 d)])],[(368,.sl 3 e)])
noncomputable def GAC (z0:Ii) (z1:Au) (z2:Eu) (k:Lu→Option (List Int)) (a:(List Int)) (b:(List Int)):Option (List Int):=
 (z0 a).bind fun r0=>
 bif (!r0) then
 some []
 else
 (z0 b).bind fun r1=>
 bif (!r1) then
  some []
 else
  k (.c0 a b 0 [])
noncomputable def O4 (z0:Ii) (z1:Au) (z2:Eu) (k:Lu→Option (List Int)):Lu→Option (List Int)
 | .c0 b d a e=>
 bif a<128 then
  (z1 a).bind fun r0=>
  (z2 17 (w64 ((w64 (2*r0))+1))).bind fun r1=>
  bif 0≤(w64 ((w64 (2*a))+1))&&(w64 ((w64 (2*a))+1))<(b.length:Int) then
  bif 0≤(w64 ((w64 (2*a))+1))&&(w64 ((w64 (2*a))+1))<(d.length:Int) then
  bif 0≤(w64 (2*a))&&(w64 (2*a))<(b.length:Int) then
  bif 0≤(w64 (2*a))&&(w64 (2*a))<(d.length:Int) then
  bif 0≤(w64 (2*a))&&(w64 (2*a))<(b.length:Int) then
  bif 0≤(w64 ((w64 (2*a))+1))&&(w64 ((w64 (2*a))+1))<(d.length:Int) then
  bif 0≤(w64 ((w64 (2*a))+1))&&(w64 ((w64 (2*a))+1))<(b.length:Int) then
  bif 0≤(w64 (2*a))&&(w64 (2*a))<(d.length:Int) then
  bif ((e.length+2)*8)≤140737488355328 then
  k (.c0 b d (w64 (a+1)) (e++[((w64 ((w64 ((b.getD (w64 (2*a)).toNat 0)*(d.getD (w64 (2*a)).toNat 0)))+(w64 (((w64 ((b.getD (w64 ((w64 (2*a))+1)).toNat 0)*(d.getD (w64 ((w64 (2*a))+1)).toNat 0))).tmod 3329)*r1)))).tmod 3329),((w64 ((w64 ((b.getD (w64 (2*a)).toNat 0)*(d.getD (w64 ((w64 (2*a))+1)).toNat 0)))+(w64 ((b.getD (w64 ((w64 (2*a))+1)).toNat 0)*(d.getD (w64 (2*a)).toNat 0))))).tmod 3329)]))
  else none
  else none
  else none
  else none
  else none
  else none
  else none
  else none
  else none
 else
  some e
noncomputable def Ho:Nat→Lu→Option (List Int)
 | 0,_=>none
 | m+1,s=>O4 Vf Yj Zj (Ho m) s
noncomputable def Nu:FAC:=GAC Vf Yj Zj (Ho gas)
theorem IAQ:Tells ctx PP 104 cv32 cv17 (fun a=>Nu a.1 a.2):=fz (cc1 X3 (cc1 DAJ (cc2 EAJ cn))) Tryz.func104 [] HAQ (fun z=>O4 z.1 z.2.1 z.2.2.1) (fun z k a=>GAC z.1 z.2.1 z.2.2.1 k a.1 a.2) Ho gas (fun s s' h=>by cases s;cases s';cases h;rfl) (fun _ _ s=>by cases s <;> kernel_rfl) fun _ _ _=>by kernel_rfl
abbrev Ou:=(List Int)→(List Int)→Option (List Int)
inductive Qu where
 | c0 (a b:(List Int)) (d:Int) (e:(List Int))
noncomputable def JAQ:Qu→LI
 | .c0 a b d e=>(tdo Tryz.f57 464,[(0,[.one (.rsl 3 a)]),(1,[.one (.rsl 3 b)]),(5,[.one (.own 368)]),(6,[.one (.int .i64 d)])],[(368,.sl 3 e)])
noncomputable def HAC (z0:Ii) (k:Qu→Option (List Int)) (a:(List Int)) (b:(List Int)):Option (List Int):=
 k (.c0 a b 0 [])
noncomputable def U4 (z0:Ii) (k:Qu→Option (List Int)):Qu→Option (List Int)
 | .c0 d e a b=>
 bif a<256 then
  (z0 d).bind fun r0=>
  bif r0 then
  (z0 e).bind fun r1=>
  bif r1 then
   bif 0≤a&&a<(d.length:Int) then
   bif 0≤a&&a<(e.length:Int) then
   bif ((b.length+1)*8)≤140737488355328 then
   k (.c0 d e (w64 (a+1)) (b++[((w64 ((d.getD a.toNat 0)+(e.getD a.toNat 0))).tmod 3329)]))
   else none
   else none
   else none
  else
   some b
  else
  some b
 else
  some b
noncomputable def Io:Nat→Qu→Option (List Int)
 | 0,_=>none
 | m+1,s=>U4 Vf (Io m) s
noncomputable def Qi:Ou:=HAC Vf (Io gas)
theorem GAJ:Tells ctx PP 57 cv32 cv17 (fun a=>Qi a.1 a.2):=fz (cc1 X3 cn) Tryz.func57 [] JAQ (fun z=>U4 z.1) (fun z k a=>HAC z.1 k a.1 a.2) Io gas (fun s s' h=>by cases s;cases s';cases h;rfl) (fun _ _ s=>by cases s <;> kernel_rfl) fun _ _ _=>by kernel_rfl
abbrev IAC:=(List (List Int))→(List (List Int))→Option (List Int)
inductive Ru where
 | c0 (a:(List (List Int))) (b:(List (List Int))) (d:Int) (e:(List Int))
noncomputable def KAQ:Ru→LI
 | .c0 a b d e=>(tdo Tryz.f58 464,[(0,[.one (.rsl 38 a)]),(1,[.one (.rsl 38 b)]),(5,[.one (.own 368)]),(6,[.one (.int .i64 d)])],[(368,.sl 3 e)])
noncomputable def JAC (z0:FAC) (z1:Ou) (k:Ru→Option (List Int)) (a:(List (List Int))) (b:(List (List Int))):Option (List Int):=
 k (.c0 a b 0 (List.replicate (256:Int).toNat (0:Int)))
noncomputable def Uu (z0:FAC) (z1:Ou) (k:Ru→Option (List Int)):Ru→Option (List Int)
 | .c0 b d a e=>
 bif a<(b.length:Int) then
  bif 0≤a&&a<(b.length:Int) then
  bif 0≤a&&a<(d.length:Int) then
  (z0 (b.getD a.toNat []) (d.getD a.toNat [])).bind fun r0=>
  (z1 e r0).bind fun r1=>
  k (.c0 b d (w64 (a+1)) r1)
  else none
  else none
 else
  some e
noncomputable def Jo:Nat→Ru→Option (List Int)
 | 0,_=>none
 | m+1,s=>Uu Nu Qi (Jo m) s
noncomputable def Ri:IAC:=JAC Nu Qi (Jo gas)
theorem LAQ:Tells ctx PP 58 cv33 cv17 (fun a=>Ri a.1 a.2):=fz (cc2 IAQ (cc2 GAJ cn)) Tryz.func58 [] KAQ (fun z=>Uu z.1 z.2.1) (fun z k a=>JAC z.1 z.2.1 k a.1 a.2) Jo gas (fun s s' h=>by cases s;cases s';cases h;rfl) (fun _ _ s=>by cases s <;> kernel_rfl) fun _ _ _=>by kernel_rfl
abbrev HAJ:=ByteArray→Option (SPair×Bool)
inductive Vu where
 | c0 (a b:ByteArray) (d e f:ByteArray) (j:Int) (g:SPair) (h:(List (List Int))) (i:(List (List Int)))
 | c1 (a b:ByteArray) (d e f:ByteArray) (n:Int) (g:SPair) (h:(List (List Int))) (i:(List (List Int)))
noncomputable def MAQ:Vu→LI
 | .c0 b d e f g j a h i=>(tdo Tryz.f23 65488,[(2,[.one (.ptr 128 0)]),(4,[.one (.str b)]),(5,[.one (.str d)]),(6,[.one (.str e)]),(7,[.one (.own 496)]),(8,[.one (.own 560)]),(9,[.one (.str f)]),(10,[.one (.str g)]),(11,[.one (.int .i64 j)])],[(128,.var [.str a.fPublic,.str a.fSecret]),(496,.sl 38 h),(560,.sl 38 i)])
 | .c1 b d e f g n a h i=>(tdo Tryz.f23 131024,[(2,[.one (.ptr 128 0)]),(4,[.one (.str b)]),(5,[.one (.str d)]),(6,[.one (.str e)]),(7,[.one (.own 496)]),(8,[.one (.own 560)]),(9,[.one (.str f)]),(10,[.one (.str g)]),(13,[.one (.int .i64 n)])],[(128,.var [.str a.fPublic,.str a.fSecret]),(496,.sl 38 h),(560,.sl 38 i)])
noncomputable def KAC (z0:X0) (z1:OAB) (z2:SAB) (z3:YAB) (z4:DAC) (z5:IAC) (z6:Ou) (k:Vu→Option (SPair×Bool)) (a:ByteArray):Option (SPair×Bool):=
 bif ((a.size:Int) != 32) then
 some (⟨⟨#[]⟩,⟨#[]⟩⟩,false)
 else
 (z0 a).bind fun r0=>
 bif (r0.size+(⟨#[114]⟩:ByteArray).size)≤9223372036854775807 then
 (z0 (r0++(⟨#[114]⟩:ByteArray))).bind fun r1=>
 bif (r0.size+(⟨#[115]⟩:ByteArray).size)≤9223372036854775807 then
 (z0 (r0++(⟨#[115]⟩:ByteArray))).bind fun r2=>
 (z1 r1).bind fun r3=>
 k (.c0 r0 r1 r2 ⟨#[]⟩ ⟨#[]⟩ 0 ⟨⟨#[]⟩,⟨#[]⟩⟩ r3 [])
 else none
 else none
noncomputable def Si (z0:X0) (z1:OAB) (z2:SAB) (z3:YAB) (z4:DAC) (z5:IAC) (z6:Ou) (k:Vu→Option (SPair×Bool)):Vu→Option (SPair×Bool)
 | .c0 f b g a e n j h i=>
 bif n<2 then
  (z2 g n).bind fun r0=>
  (z3 r0).bind fun r1=>
  bif ((i.length+1)*24)≤140737488355328 then
  (z4 r1).bind fun r2=>
  bif (e.size+r2.size)≤9223372036854775807 then
  k (.c0 f b g a (e++r2) (w64 (n+1)) j h (i++[r1]))
  else none
  else none
 else
  k (.c1 f b g a e 0 j h i)
 | .c1 f b g a e d j h i=>
 bif d<2 then
  bif (((decide (0≤(w64 (d*2)))) && (decide ((w64 (d*2))≤(w64 ((w64 (d*2))+2))))) && (decide ((w64 ((w64 (d*2))+2))≤(h.length:Int)))) then
  (z5 ((h.drop (w64 (d*2)).toNat).take ((w64 ((w64 (d*2))+2)).toNat - (w64 (d*2)).toNat)) i).bind fun r0=>
  (z2 g (w64 (2+d))).bind fun r1=>
  (z3 r1).bind fun r2=>
  (z6 r0 r2).bind fun r3=>
  (z4 r3).bind fun r4=>
  bif (a.size+r4.size)≤9223372036854775807 then
  k (.c1 f b g (a++r4) e (w64 (d+1)) j h i)
  else none
  else none
 else
  bif (a.size+b.size)≤9223372036854775807 then
  bif (e.size+(a++b).size)≤9223372036854775807 then
  (z0 (a++b)).bind fun r5=>
  bif ((e++(a++b)).size+r5.size)≤9223372036854775807 then
  bif (f.size+(⟨#[122]⟩:ByteArray).size)≤9223372036854775807 then
  (z0 (f++(⟨#[122]⟩:ByteArray))).bind fun r6=>
  bif (((e++(a++b))++r5).size+r6.size)≤9223372036854775807 then
  some (⟨(a++b),(((e++(a++b))++r5)++r6)⟩,true)
  else none
  else none
  else none
  else none
  else none
noncomputable def Ih:Nat→Vu→Option (SPair×Bool)
 | 0,_=>none
 | m+1,s=>Si Jf Xt Gh Bo Ak Ri Qi (Ih m) s
noncomputable def V4:HAJ:=KAC Jf Xt Gh Bo Ak Ri Qi (Ih gas)
theorem NAQ:Tells ctx PP 23 cv8 cv34 (fun a=>V4 a):=fz (cc1 UAI (cc1 TAP (cc2 WAP (cc1 BAQ (cc1 GAQ (cc2 LAQ (cc2 GAJ cn))))))) Tryz.func23 [] MAQ (fun z=>Si z.1 z.2.1 z.2.2.1 z.2.2.2.1 z.2.2.2.2.1 z.2.2.2.2.2.1 z.2.2.2.2.2.2.1) (fun z k a=>KAC z.1 z.2.1 z.2.2.1 z.2.2.2.1 z.2.2.2.2.1 z.2.2.2.2.2.1 z.2.2.2.2.2.2.1 k a) Ih gas (fun s s' h=>by cases s <;> cases s' <;> first | ((repeat cases ‹SPair›);cases h;done) | ((repeat cases ‹SPair›);cases h;rfl) | exact (rg_ne h (by kernel_rfl)).elim) (fun _ _ s=>by cases s <;> kernel_rfl) fun _ _ _=>by kernel_rfl
abbrev Ti:=ByteArray→Option ByteArray
noncomputable def LAC (z0:X0) (a:ByteArray):Option ByteArray:=
 (z0 a).bind fun r0=>
 bif (0:Int)≤(4:Int)&&4≤(r0.size:Int) then
 some (r0.extract 0 (4:Int).toNat)
 else none
noncomputable def Jd:Ti:=LAC Jf
theorem X4:Tells ctx PP 197 cv8 cv8 (fun a=>Jd a):=fz0 (cc1 UAI cn) Tryz.func197 [] (fun z a=>LAC z.1 a) fun _ _=>by kernel_rfl
abbrev NAC:=ByteArray→Int→Option (List ByteArray)
inductive Wu where
 | c0 (a:ByteArray) (b d:Int) (e:(List ByteArray))
noncomputable def OAQ:Wu→LI
 | .c0 a b d e=>(tdo Tryz.f150 464,[(0,[.one (.str a)]),(1,[.one (.int .i64 b)]),(5,[.one (.own 368)]),(6,[.one (.int .i64 d)])],[(368,.sl 9 e)])
noncomputable def OAC (z0:Rf) (z1:Ti) (k:Wu→Option (List ByteArray)) (a:ByteArray) (b:Int):Option (List ByteArray):=
 k (.c0 a b 0 [])
noncomputable def Y4 (z0:Rf) (z1:Ti) (k:Wu→Option (List ByteArray)):Wu→Option (List ByteArray)
 | .c0 a e b d=>
 bif b<10 then
  (z0 e).bind fun r0=>
  bif (a.size+r0.size)≤9223372036854775807 then
  (z0 b).bind fun r1=>
  bif ((a++r0).size+r1.size)≤9223372036854775807 then
  bif (((a++r0)++r1).size+(⟨#[111]⟩:ByteArray).size)≤9223372036854775807 then
  (z1 (((a++r0)++r1)++(⟨#[111]⟩:ByteArray))).bind fun r2=>
  bif ((d.length+1)*16)≤140737488355328 then
  k (.c0 a e (w64 (b+1)) (d++[r2]))
  else none
  else none
  else none
  else none
 else
  some d
noncomputable def Ik:Nat→Wu→Option (List ByteArray)
 | 0,_=>none
 | m+1,s=>Y4 Ic Jd (Ik m) s
noncomputable def Xu:NAC:=OAC Ic Jd (Ik gas)
theorem PAQ:Tells ctx PP 150 cv10 cv35 (fun a=>Xu a.1 a.2):=fz (cc1 Ls (cc1 X4 cn)) Tryz.func150 [] OAQ (fun z=>Y4 z.1 z.2.1) (fun z k a=>OAC z.1 z.2.1 k a.1 a.2) Ik gas (fun s s' h=>by cases s;cases s';cases h;rfl) (fun _ _ s=>by cases s <;> kernel_rfl) fun _ _ _=>by kernel_rfl
abbrev PAC:=ByteArray→Int→Int→Int→Int→Option ByteArray
inductive Yu where
 | c0 (a:ByteArray) (b d:Int) (e f g:Int)
noncomputable def QAQ:Yu→LI
 | .c0 a b d e f g=>(tdo Tryz.f196 208,[(0,[.one (.str a)]),(1,[.one (.int .i64 b)]),(2,[.one (.int .i64 d)]),(3,[.one (.int .i64 e)]),(4,[.one (.int .i64 f)]),(11,[.one (.int .i64 g)])],[])
noncomputable def QAC (z0:Rf) (z1:Ti) (k:Yu→Option ByteArray) (a:ByteArray) (b:Int) (d:Int) (e:Int) (f:Int):Option ByteArray:=
 k (.c0 a b d e f 0)
noncomputable def Z4 (z0:Rf) (z1:Ti) (k:Yu→Option ByteArray):Yu→Option ByteArray
 | .c0 a d e f g b=>
 bif b<g then
  bif b<15 then
  (z0 d).bind fun r0=>
  (z0 e).bind fun r1=>
  bif (r0.size+r1.size)≤9223372036854775807 then
  (z0 (w64 ((f.tmod 256)+b))).bind fun r2=>
  bif ((r0++r1).size+r2.size)≤9223372036854775807 then
  bif (((r0++r1)++r2).size+a.size)≤9223372036854775807 then
  (z1 (((r0++r1)++r2)++a)).bind fun r3=>
  k (.c0 r3 d e f g (w64 (b+1)))
  else none
  else none
  else none
  else
  some a
 else
  some a
noncomputable def Ko:Nat→Yu→Option ByteArray
 | 0,_=>none
 | m+1,s=>Z4 Ic Jd (Ko m) s
noncomputable def Oo:PAC:=QAC Ic Jd (Ko gas)
theorem RAQ:Tells ctx PP 196 cv36 cv8 (fun a=>Oo a.1 a.2.1 a.2.2.1 a.2.2.2.1 a.2.2.2.2):=fz (cc1 Ls (cc1 X4 cn)) Tryz.func196 [] QAQ (fun z=>Z4 z.1 z.2.1) (fun z k a=>QAC z.1 z.2.1 k a.1 a.2.1 a.2.2.1 a.2.2.2.1 a.2.2.2.2) Ko gas (fun s s' h=>by cases s;cases s';cases h;rfl) (fun _ _ s=>by cases s <;> kernel_rfl) fun _ _ _=>by kernel_rfl
abbrev RAC:=(List ByteArray)→Int→Option ByteArray
inductive Zu where
 | c0 (a:(List ByteArray)) (b:Int) (d:ByteArray) (e:Int)
noncomputable def SAQ:Zu→LI
 | .c0 a b d e=>(tdo Tryz.f149 976,[(0,[.one (.rsl 9 a)]),(1,[.one (.int .i64 b)]),(5,[.one (.str d)]),(6,[.one (.int .i64 e)])],[])
noncomputable def SAC (z0:PAC) (z1:Ti) (k:Zu→Option ByteArray) (a:(List ByteArray)) (b:Int):Option ByteArray:=
 bif ((a.length:Int) != 10) then
 some ⟨#[]⟩
 else
 k (.c0 a b ⟨#[]⟩ 0)
noncomputable def D5 (z0:PAC) (z1:Ti) (k:Zu→Option ByteArray):Zu→Option ByteArray
 | .c0 b e d a=>
 bif a<10 then
  bif 0≤a&&a<(b.length:Int) then
  (z0 (b.getD a.toNat (⟨#[]⟩:ByteArray)) e a 0 15).bind fun r0=>
  bif (d.size+r0.size)≤9223372036854775807 then
  k (.c0 b e (d++r0) (w64 (a+1)))
  else none
  else none
 else
  (z1 d).bind fun r1=>
  some r1
noncomputable def Jk:Nat→Zu→Option ByteArray
 | 0,_=>none
 | m+1,s=>D5 Oo Jd (Jk m) s
noncomputable def Bv:RAC:=SAC Oo Jd (Jk gas)
theorem TAQ:Tells ctx PP 149 cv37 cv8 (fun a=>Bv a.1 a.2):=fz (cc5 RAQ (cc1 X4 cn)) Tryz.func149 [] SAQ (fun z=>D5 z.1 z.2.1) (fun z k a=>SAC z.1 z.2.1 k a.1 a.2) Jk gas (fun s s' h=>by cases s;cases s';cases h;rfl) (fun _ _ s=>by cases s <;> kernel_rfl) fun _ _ _=>by kernel_rfl
abbrev IAJ:=ByteArray→Option (List ByteArray)
inductive Dv where
 | c0 (a:ByteArray) (b:Int) (d:(List ByteArray))
noncomputable def UAQ:Dv→LI
 | .c0 a b d=>(tdo Tryz.f106 464,[(0,[.one (.str a)]),(3,[.one (.own 240)]),(4,[.one (.int .i64 b)])],[(240,.sl 9 d)])
noncomputable def UAC (z0:NAC) (z1:RAC) (k:Dv→Option (List ByteArray)) (a:ByteArray):Option (List ByteArray):=
 k (.c0 a 0 [])
noncomputable def E5 (z0:NAC) (z1:RAC) (k:Dv→Option (List ByteArray)):Dv→Option (List ByteArray)
 | .c0 d a b=>
 bif a<4 then
  (z0 d a).bind fun r0=>
  (z1 r0 a).bind fun r1=>
  bif ((b.length+1)*16)≤140737488355328 then
  k (.c0 d (w64 (a+1)) (b++[r1]))
  else none
 else
  some b
noncomputable def Po:Nat→Dv→Option (List ByteArray)
 | 0,_=>none
 | m+1,s=>E5 Xu Bv (Po m) s
noncomputable def F5:IAJ:=UAC Xu Bv (Po gas)
theorem VAQ:Tells ctx PP 106 cv8 cv35 (fun a=>F5 a):=fz (cc2 PAQ (cc2 TAQ cn)) Tryz.func106 [] UAQ (fun z=>E5 z.1 z.2.1) (fun z k a=>UAC z.1 z.2.1 k a) Po gas (fun s s' h=>by cases s;cases s';cases h;rfl) (fun _ _ s=>by cases s <;> kernel_rfl) fun _ _ _=>by kernel_rfl
abbrev VAC:=Int→Int→ByteArray→ByteArray→Option ByteArray
noncomputable def WAC (z0:Rf) (z1:Ti) (d:Int) (e:Int) (a:ByteArray) (b:ByteArray):Option ByteArray:=
 (z0 d).bind fun r0=>
 (z0 e).bind fun r1=>
 bif (r0.size+r1.size)≤9223372036854775807 then
 bif ((r0++r1).size+a.size)≤9223372036854775807 then
 bif (((r0++r1)++a).size+b.size)≤9223372036854775807 then
 bif ((((r0++r1)++a)++b).size+(⟨#[110]⟩:ByteArray).size)≤9223372036854775807 then
 (z1 ((((r0++r1)++a)++b)++(⟨#[110]⟩:ByteArray))).bind fun r2=>
 some r2
 else none
 else none
 else none
 else none
noncomputable def Ui:VAC:=WAC Ic Jd
theorem WAQ:Tells ctx PP 195 cv38 cv8 (fun a=>Ui a.1 a.2.1 a.2.2.1 a.2.2.2):=fz0 (cc1 Ls (cc1 X4 cn)) Tryz.func195 [] (fun z a=>WAC z.1 z.2.1 a.1 a.2.1 a.2.2.1 a.2.2.2) fun _ _=>by kernel_rfl
abbrev XAC:=Int→(List ByteArray)→Option (List ByteArray)
inductive Fv where
 | c0 (a:Int) (b:(List ByteArray)) (d:Int) (e:(List ByteArray))
noncomputable def XAQ:Fv→LI
 | .c0 a b d e=>(tdo Tryz.f148 464,[(0,[.one (.int .i64 a)]),(1,[.one (.rsl 9 b)]),(5,[.one (.own 368)]),(6,[.one (.int .i64 d)])],[(368,.sl 9 e)])
noncomputable def G5 (z0:VAC) (k:Fv→Option (List ByteArray)) (a:Int) (b:(List ByteArray)):Option (List ByteArray):=
 k (.c0 a b 0 [])
noncomputable def Nk (z0:VAC) (k:Fv→Option (List ByteArray)):Fv→Option (List ByteArray)
 | .c0 e b a d=>
 bif (w64 ((w64 (2*a))+1))<(b.length:Int) then
  bif 0≤(w64 (2*a))&&(w64 (2*a))<(b.length:Int) then
  bif 0≤(w64 ((w64 (2*a))+1))&&(w64 ((w64 (2*a))+1))<(b.length:Int) then
  (z0 e a (b.getD (w64 (2*a)).toNat (⟨#[]⟩:ByteArray)) (b.getD (w64 ((w64 (2*a))+1)).toNat (⟨#[]⟩:ByteArray))).bind fun r0=>
  bif ((d.length+1)*16)≤140737488355328 then
  k (.c0 e b (w64 (a+1)) (d++[r0]))
  else none
  else none
  else none
 else
  some d
noncomputable def Wi:Nat→Fv→Option (List ByteArray)
 | 0,_=>none
 | m+1,s=>Nk Ui (Wi m) s
noncomputable def Qk:XAC:=G5 Ui (Wi gas)
theorem YAQ:Tells ctx PP 148 cv39 cv35 (fun a=>Qk a.1 a.2):=fz (cc4 WAQ cn) Tryz.func148 [] XAQ (fun z=>Nk z.1) (fun z k a=>G5 z.1 k a.1 a.2) Wi gas (fun s s' h=>by cases s;cases s';cases h;rfl) (fun _ _ s=>by cases s <;> kernel_rfl) fun _ _ _=>by kernel_rfl
abbrev JAJ:=(List ByteArray)→Option ByteArray
inductive Gv where
 | c0 (a:(List ByteArray)) (b:Int)
 | c1 (b:Int) (a:(List ByteArray))
noncomputable def ZAQ:Gv→LI
 | .c0 a b=>(tdo Tryz.f105 464,[(0,[.one (.rsl 9 a)]),(3,[.one (.int .i64 b)])],[])
 | .c1 b a=>(tdo Tryz.f105 464,[(0,[.one (.own 48)]),(3,[.one (.int .i64 b)])],[(48,.sl 9 a)])
noncomputable def YAC (z0:XAC) (k:Gv→Option ByteArray) (a:(List ByteArray)):Option ByteArray:=
 bif ((a.length:Int) != 4) then
 some ⟨#[]⟩
 else
 k (.c0 a 1)
noncomputable def Jv (z0:XAC) (k:Gv→Option ByteArray):Gv→Option ByteArray
 | .c0 a b=>
 bif b≤2 then
  (z0 b a).bind fun r0=>
  k (.c1 (w64 (b+1)) r0)
 else
  bif (0:Int)≤(0:Int)&&0<(a.length:Int) then
  some (a.getD (0:Int).toNat (⟨#[]⟩:ByteArray))
  else none
 | .c1 b a=>
 bif b≤2 then
  (z0 b a).bind fun r0=>
  k (.c1 (w64 (b+1)) r0)
 else
  bif (0:Int)≤(0:Int)&&0<(a.length:Int) then
  some (a.getD (0:Int).toNat (⟨#[]⟩:ByteArray))
  else none
noncomputable def Qo:Nat→Gv→Option ByteArray
 | 0,_=>none
 | m+1,s=>Jv Qk (Qo m) s
noncomputable def I5:JAJ:=YAC Qk (Qo gas)
theorem AAR:Tells ctx PP 105 cv40 cv8 (fun a=>I5 a):=fz (cc2 YAQ cn) Tryz.func105 [] ZAQ (fun z=>Jv z.1) (fun z k a=>YAC z.1 k a) Qo gas (fun s s' h=>by cases s <;> cases s' <;> first | (cases h;done) | (cases h;rfl) | exact (rg_ne h (by kernel_rfl)).elim) (fun _ _ s=>by cases s <;> kernel_rfl) fun _ _ _=>by kernel_rfl
abbrev KAJ:=ByteArray→Option ByteArray
noncomputable def ZAC (z0:IAJ) (z1:JAJ) (a:ByteArray):Option ByteArray:=
 (z0 a).bind fun r0=>
 (z1 r0).bind fun r1=>
 some r1
noncomputable def J5:KAJ:=ZAC F5 I5
theorem CAR:Tells ctx PP 59 cv8 cv8 (fun a=>J5 a):=fz0 (cc1 VAQ (cc1 AAR cn)) Tryz.func59 [] (fun z a=>ZAC z.1 z.2.1 a) fun _ _=>by kernel_rfl
abbrev LAJ:=ByteArray→Option ByteArray
noncomputable def AAD (z0:KAJ) (a:ByteArray):Option ByteArray:=
 bif (a.size+(⟨#[116]⟩:ByteArray).size)≤9223372036854775807 then
 (z0 (a++(⟨#[116]⟩:ByteArray))).bind fun r0=>
 some r0
 else none
noncomputable def O5:LAJ:=AAD J5
theorem DAR:Tells ctx PP 24 cv8 cv8 (fun a=>O5 a):=fz0 (cc1 CAR cn) Tryz.func24 [] (fun z a=>AAD z.1 a) fun _ _=>by kernel_rfl
abbrev MAJ:=SThing→Option ByteArray
noncomputable def CAD (z0:HAI) (z1:HAJ) (z2:LAJ) (a:SThing):Option ByteArray:=
 (z0 a).bind fun r0=>
 bif (!r0) then
 some ⟨#[]⟩
 else
 bif (a.fKind == 1) then
  (z1 a.fValue).bind fun r1=>
  some r1.1.fPublic
 else
  bif (a.fKind == 2) then
  (z2 a.fValue).bind fun r2=>
  some r2
  else
  some ⟨#[]⟩
noncomputable def P5:MAJ:=CAD Tz V4 O5
theorem EAR:Tells ctx PP 7 cv2 cv8 (fun a=>P5 a):=fz0 (cc1 MAO (cc1 NAQ (cc1 DAR cn))) Tryz.func7 [] (fun z a=>CAD z.1 z.2.1 z.2.2.1 a) fun _ _=>by kernel_rfl
abbrev Jh:=Int→Int→Int→Option Bool
noncomputable def NAJ (a:Int) (b:Int) (d:Int):Option Bool:=
 bif a≥b then
 some (decide (a≤d))
 else
 some false
noncomputable def Xf:Jh:=NAJ
theorem Kv:Tells ctx PP 36 cv3 cv4 (fun a=>Xf a.1 a.2.1 a.2.2):=fz0 cn Tryz.func36 [] (fun _ a=>NAJ a.1 a.2.1 a.2.2) fun _ _=>by kernel_rfl
abbrev OAJ:=SThing→Option Bool
noncomputable def DAD (z0:Jh) (a:SThing):Option Bool:=
 (z0 a.fId 1 1000).bind fun r0=>
 bif (!r0) then
 some false
 else
 (z0 a.fNext 0 16).bind fun r1=>
 bif (!r1) then
  some false
 else
  bif (a.fKind != 2) then
  bif (a.fNext != 0) then
   some false
  else
   bif a.fSigns then
   some false
   else
   bif (a.fKind != 1) then
    bif a.fWraps then
    some false
    else
    bif (a.fKind == 1) then
     bif (a.fKind == 1) then
     some ((a.fValue.size:Int) == 32)
     else
     bif (a.fKind == 3) then
      some (decide ((a.fValue.size:Int)≤100))
     else
      some false
    else
     bif (a.fKind == 2) then
     some ((a.fValue.size:Int) == 32)
     else
     bif (a.fKind == 3) then
      some (decide ((a.fValue.size:Int)≤100))
     else
      some false
   else
    bif (a.fKind == 1) then
    bif (a.fKind == 1) then
     some ((a.fValue.size:Int) == 32)
    else
     bif (a.fKind == 3) then
     some (decide ((a.fValue.size:Int)≤100))
     else
     some false
    else
    bif (a.fKind == 2) then
     some ((a.fValue.size:Int) == 32)
    else
     bif (a.fKind == 3) then
     some (decide ((a.fValue.size:Int)≤100))
     else
     some false
  else
  bif (a.fKind != 1) then
   bif a.fWraps then
   some false
   else
   bif (a.fKind == 1) then
    bif (a.fKind == 1) then
    some ((a.fValue.size:Int) == 32)
    else
    bif (a.fKind == 3) then
     some (decide ((a.fValue.size:Int)≤100))
    else
     some false
   else
    bif (a.fKind == 2) then
    some ((a.fValue.size:Int) == 32)
    else
    bif (a.fKind == 3) then
     some (decide ((a.fValue.size:Int)≤100))
    else
     some false
  else
   bif (a.fKind == 1) then
   bif (a.fKind == 1) then
    some ((a.fValue.size:Int) == 32)
   else
    bif (a.fKind == 3) then
    some (decide ((a.fValue.size:Int)≤100))
    else
    some false
   else
   bif (a.fKind == 2) then
    some ((a.fValue.size:Int) == 32)
   else
    bif (a.fKind == 3) then
    some (decide ((a.fValue.size:Int)≤100))
    else
    some false
noncomputable def Q5:OAJ:=DAD Xf
theorem GAR:Tells ctx PP 15 cv2 cv4 (fun a=>Q5 a):=fz0 (cc3 Kv cn) Tryz.func15 [] (fun z a=>DAD z.1 a) fun _ _=>by kernel_rfl
abbrev PAJ:=Option (List Int)
noncomputable def QAJ  : Option (List Int):=
 some [1779033703,3144134277,1013904242,2773480762,1359893119,2600822924,528734635,1541459225]
noncomputable def EAD:PAJ:=QAJ
theorem HAR:Tells ctx PP 89 cv5 cv41 (fun _=>EAD):=fz0 cn Tryz.func89 [] (fun _ _=>QAJ) fun _ _=>by kernel_rfl
abbrev RAJ:=Int→Option ByteArray
noncomputable def FAD (a:Int):Option ByteArray:=
 bif ((((decide (0≤a)) && (decide (a≤a))) && (decide (a≤9223372036854775807))) && (decide ((a.toNat*1)≤140737488355328))) then
 some (ofBytes (List.replicate a.toNat (0:Int)))
 else none
noncomputable def U5:RAJ:=FAD
theorem IAR:Tells ctx PP 121 cv1 cv8 (fun a=>U5 a):=fz0 cn Tryz.func121 [] (fun _ a=>FAD a) fun _ _=>by kernel_rfl
abbrev V5:=Int→Option ByteArray
noncomputable def GAD (a:Int):Option ByteArray:=
 some (ofBytes [(w8 (Int.fdiv a (2 ^ (Min.min (24:Int).toNat (IntKind.bits IntKind.u32))))),(w8 (Int.fdiv a (2 ^ (Min.min (16:Int).toNat (IntKind.bits IntKind.u32))))),(w8 (Int.fdiv a (2 ^ (Min.min (8:Int).toNat (IntKind.bits IntKind.u32))))),(w8 a)])
noncomputable def Ro:V5:=GAD
theorem SAJ:Tells ctx PP 127 cv11 cv8 (fun a=>Ro a):=fz0 cn Tryz.func127 [] (fun _ a=>GAD a) fun _ _=>by kernel_rfl
abbrev TAJ:=Int→Option ByteArray
noncomputable def IAD (z0:V5) (a:Int):Option ByteArray:=
 (z0 (w32 (Int.fdiv a (2 ^ (Min.min (32:Int).toNat (IntKind.bits IntKind.i64)))))).bind fun r0=>
 (z0 (w32 a)).bind fun r1=>
 bif (r0.size+r1.size)≤9223372036854775807 then
 some (r0++r1)
 else none
noncomputable def X5:TAJ:=IAD Ro
theorem JAR:Tells ctx PP 126 cv1 cv8 (fun a=>X5 a):=fz0 (cc1 SAJ cn) Tryz.func126 [] (fun z a=>IAD z.1 a) fun _ _=>by kernel_rfl
abbrev UAJ:=Int→Option ByteArray
noncomputable def JAD (z0:RAJ) (z1:TAJ) (a:Int):Option ByteArray:=
 (z0 ((w64 (119 - (a.tmod 64))).tmod 64)).bind fun r0=>
 bif ((⟨#[128]⟩:ByteArray).size+r0.size)≤9223372036854775807 then
 (z1 (w64 (8*a))).bind fun r1=>
 bif (((⟨#[128]⟩:ByteArray)++r0).size+r1.size)≤9223372036854775807 then
 some (((⟨#[128]⟩:ByteArray)++r0)++r1)
 else none
 else none
noncomputable def Y5:UAJ:=JAD U5 X5
theorem KAR:Tells ctx PP 90 cv1 cv8 (fun a=>Y5 a):=fz0 (cc1 IAR (cc1 JAR cn)) Tryz.func90 [] (fun z a=>JAD z.1 z.2.1 a) fun _ _=>by kernel_rfl
abbrev VAJ:=Int→Int→Option Int
noncomputable def KAD (b:Int) (a:Int):Option Int:=
 bif 0≤(wu64 (32 - (wu64 (((BitVec.toNat ((BitVec.ofInt (IntKind.bits IntKind.u64) (wu64 a)) &&& (BitVec.ofInt (IntKind.bits IntKind.u64) 31))):Nat):Int)))) then
 some (w32 (((BitVec.toNat ((BitVec.ofInt (IntKind.bits IntKind.u32) (w32 (b*(2 ^ (Min.min (wu64 (((BitVec.toNat ((BitVec.ofInt (IntKind.bits IntKind.u64) (wu64 a)) &&& (BitVec.ofInt (IntKind.bits IntKind.u64) 31))):Nat):Int)).toNat (IntKind.bits IntKind.u32)))))) ||| (BitVec.ofInt (IntKind.bits IntKind.u32) (Int.fdiv b (2 ^ (Min.min (wu64 (32 - (wu64 (((BitVec.toNat ((BitVec.ofInt (IntKind.bits IntKind.u64) (wu64 a)) &&& (BitVec.ofInt (IntKind.bits IntKind.u64) 31))):Nat):Int)))).toNat (IntKind.bits IntKind.u32))))))):Nat):Int))
 else none
noncomputable def Z5:VAJ:=KAD
theorem LAR:Tells ctx PP 212 cv42 cv11 (fun a=>Z5 a.1 a.2):=fz0 cn Tryz.func212 [] (fun _ a=>KAD a.1 a.2) fun _ _=>by kernel_rfl
abbrev Nv:=Int→Int→Option Int
noncomputable def LAD (z0:VAJ) (a:Int) (b:Int):Option Int:=
 (z0 a (w64 (0 - b))).bind fun r0=>
 some r0
noncomputable def Vb:Nv:=LAD Z5
theorem WAJ:Tells ctx PP 172 cv42 cv11 (fun a=>Vb a.1 a.2):=fz0 (cc2 LAR cn) Tryz.func172 [] (fun z a=>LAD z.1 a.1 a.2) fun _ _=>by kernel_rfl
abbrev MAD:=ByteArray→Option (List Int)
inductive Ov where
 | c0 (d:ByteArray) (e:Int) (a b:(List Int))
 | c1 (d:ByteArray) (f e g:Int) (a b:(List Int))
 | c2 (h:Int) (a b:(List Int))
noncomputable def MAR:Ov→LI
 | .c0 d e a b=>(tdo Tryz.f171 232,[(0,[.one (.str d)]),(2,[.one (.ptr 128 0)]),(3,[.one (.ptr 192 0)]),(11,[.one (.int .i64 e)])],[(128,.ar 133 a),(192,.ar 133 b)])
 | .c1 d f e g a b=>(tdo Tryz.f171 59800,[(0,[.one (.str d)]),(2,[.one (.ptr 128 0)]),(3,[.one (.ptr 192 0)]),(4,[.one (.int .i64 f)]),(11,[.one (.int .i64 e)]),(14,[.one (.int .i64 g)])],[(128,.ar 133 a),(192,.ar 133 b)])
 | .c2 h a b=>(tdo Tryz.f171 976,[(2,[.one (.ptr 128 0)]),(3,[.one (.ptr 192 0)]),(6,[.one (.int .i64 h)])],[(128,.ar 133 a),(192,.ar 133 b)])
noncomputable def NAD (z0:Nv) (k:Ov→Option (List Int)) (a:ByteArray):Option (List Int):=
 k (.c0 a 0 (List.replicate 64 (0:Int)) (List.replicate 64 (0:Int)))
noncomputable def Xi (z0:Nv) (k:Ov→Option (List Int)):Ov→Option (List Int)
 | .c0 f g e a=>
 bif g<16 then
  k (.c1 f g g 0 e a)
 else
  k (.c2 16 e a)
 | .c1 f d g h e a=>
 bif h<4 then
  bif (Nat.beq 64 a.length) then
  bif 0≤d&&d<(a.length:Int) then
  bif 0≤(w64 ((w64 (4*d))+h))&&(w64 ((w64 (4*d))+h))<(f.size:Int) then
  bif (Nat.beq 64 a.length) then
  bif 0≤d&&d<(a.length:Int) then
  k (.c1 f d g (w64 (h+1)) e (a.set d.toNat (w32 (((BitVec.toNat ((BitVec.ofInt (IntKind.bits IntKind.u32) (w32 ((a.getD d.toNat 0)*(2 ^ (Min.min (8:Int).toNat (IntKind.bits IntKind.u32)))))) ||| (BitVec.ofInt (IntKind.bits IntKind.u32) (w32 (bt f (w64 ((w64 (4*d))+h))))))):Nat):Int))))
  else none
  else none
  else none
  else none
  else none
 else
  k (.c0 f (w64 (g+1)) e a)
 | .c2 b e a=>
 bif b<64 then
  bif (Nat.beq 64 a.length) then
  bif 0≤(w64 (b - 15))&&(w64 (b - 15))<(a.length:Int) then
  bif (Nat.beq 64 a.length) then
  bif 0≤(w64 (b - 2))&&(w64 (b - 2))<(a.length:Int) then
  (z0 (a.getD (w64 (b - 15)).toNat 0) 7).bind fun r0=>
  (z0 (a.getD (w64 (b - 15)).toNat 0) 18).bind fun r1=>
  (z0 (a.getD (w64 (b - 2)).toNat 0) 17).bind fun r2=>
  (z0 (a.getD (w64 (b - 2)).toNat 0) 19).bind fun r3=>
  bif (Nat.beq 64 a.length) then
  bif 0≤(w64 (b - 7))&&(w64 (b - 7))<(a.length:Int) then
  bif (Nat.beq 64 a.length) then
  bif 0≤(w64 (b - 16))&&(w64 (b - 16))<(a.length:Int) then
  bif (Nat.beq 64 a.length) then
  bif 0≤b&&b<(a.length:Int) then
  k (.c2 (w64 (b+1)) e (a.set b.toNat (w32 ((w32 ((w32 ((w32 (((BitVec.toNat ((BitVec.ofInt (IntKind.bits IntKind.u32) (w32 (((BitVec.toNat ((BitVec.ofInt (IntKind.bits IntKind.u32) r2) ^^^ (BitVec.ofInt (IntKind.bits IntKind.u32) r3))):Nat):Int))) ^^^ (BitVec.ofInt (IntKind.bits IntKind.u32) (Int.fdiv (a.getD (w64 (b - 2)).toNat 0) (2 ^ (Min.min (10:Int).toNat (IntKind.bits IntKind.u32))))))):Nat):Int))+(a.getD (w64 (b - 7)).toNat 0)))+(w32 (((BitVec.toNat ((BitVec.ofInt (IntKind.bits IntKind.u32) (w32 (((BitVec.toNat ((BitVec.ofInt (IntKind.bits IntKind.u32) r0) ^^^ (BitVec.ofInt (IntKind.bits IntKind.u32) r1))):Nat):Int))) ^^^ (BitVec.ofInt (IntKind.bits IntKind.u32) (Int.fdiv (a.getD (w64 (b - 15)).toNat 0) (2 ^ (Min.min (3:Int).toNat (IntKind.bits IntKind.u32))))))):Nat):Int))))+(a.getD (w64 (b - 16)).toNat 0)))))
  else none
  else none
  else none
  else none
  else none
  else none
  else none
  else none
  else none
  else none
 else
  bif (Nat.beq 64 a.length) then
  bif ((Nat.beq a.length e.length) && (Nat.beq 64 a.length)) then
  bif ((Nat.beq 64 a.length) && true) then
  some a
  else none
  else none
  else none
noncomputable def Bd:Nat→Ov→Option (List Int)
 | 0,_=>none
 | m+1,s=>Xi Vb (Bd m) s
noncomputable def Pv:MAD:=NAD Vb (Bd gas)
theorem NAR:Tells ctx PP 171 cv8 cv41 (fun a=>Pv a):=fz (cc2 WAJ cn) Tryz.func171 [] MAR (fun z=>Xi z.1) (fun z k a=>NAD z.1 k a) Bd gas (fun s s' h=>by cases s <;> cases s' <;> first | (cases h;done) | (cases h;rfl) | exact (rg_ne h (by kernel_rfl)).elim) (fun _ _ s=>by cases s <;> kernel_rfl) fun _ _ _=>by kernel_rfl
abbrev OAD:=(List Int)→ByteArray→Option (List Int)
inductive Qv where
 | c0 (d e:Int) (f g:Int) (h i:Int) (j n o:Int) (a b p:(List Int))
 | c1 (q:Int) (a b t:(List Int))
noncomputable def OAR:Qv→LI
 | .c0 d e f g h i j n o a b p=>(tdo Tryz.f125 488,[(2,[.one (.ptr 128 0)]),(4,[.one (.ptr 256 0)]),(5,[.one (.ptr 320 0)]),(6,[.one (.int .u32 d)]),(7,[.one (.int .u32 e)]),(8,[.one (.int .u32 f)]),(9,[.one (.int .u32 g)]),(10,[.one (.int .u32 h)]),(11,[.one (.int .u32 i)]),(12,[.one (.int .u32 j)]),(13,[.one (.int .u32 n)]),(37,[.one (.int .i64 o)])],[(128,.ar 133 a),(256,.ar 133 b),(320,.ar 133 p)])
 | .c1 q a b t=>(tdo Tryz.f125 2024,[(2,[.one (.ptr 128 0)]),(4,[.one (.ptr 256 0)]),(17,[.one (.ptr 1088 0)]),(109,[.one (.int .i64 q)])],[(128,.ar 133 a),(256,.ar 133 b),(1088,.ar 133 t)])
noncomputable def PAD (z0:MAD) (z1:Nv) (k:Qv→Option (List Int)) (a:(List Int)) (b:ByteArray):Option (List Int):=
 (z0 b).bind fun r0=>
 bif ((Nat.beq r0.length (List.replicate 64 (0:Int)).length) && (Nat.beq 64 r0.length)) then
 bif (Nat.beq 8 a.length) then
 bif (0:Int)≤(0:Int)&&0<(a.length:Int) then
 bif (Nat.beq 8 a.length) then
 bif (0:Int)≤(1:Int)&&1<(a.length:Int) then
 bif (Nat.beq 8 a.length) then
 bif (0:Int)≤(2:Int)&&2<(a.length:Int) then
 bif (Nat.beq 8 a.length) then
 bif (0:Int)≤(3:Int)&&3<(a.length:Int) then
 bif (Nat.beq 8 a.length) then
 bif (0:Int)≤(4:Int)&&4<(a.length:Int) then
 bif (Nat.beq 8 a.length) then
 bif (0:Int)≤(5:Int)&&5<(a.length:Int) then
 bif (Nat.beq 8 a.length) then
 bif (0:Int)≤(6:Int)&&6<(a.length:Int) then
 bif (Nat.beq 8 a.length) then
 bif (0:Int)≤(7:Int)&&7<(a.length:Int) then
 k (.c0 (a.getD (0:Int).toNat 0) (a.getD (1:Int).toNat 0) (a.getD (2:Int).toNat 0) (a.getD (3:Int).toNat 0) (a.getD (4:Int).toNat 0) (a.getD (5:Int).toNat 0) (a.getD (6:Int).toNat 0) (a.getD (7:Int).toNat 0) 0 a [0,0,0,0,0,0,0,0] r0)
 else none
 else none
 else none
 else none
 else none
 else none
 else none
 else none
 else none
 else none
 else none
 else none
 else none
 else none
 else none
 else none
 else none
noncomputable def Uo (z0:MAD) (z1:Nv) (k:Qv→Option (List Int)):Qv→Option (List Int)
 | .c0 f j n t e o p q a g h i=>
 bif a<64 then
  (z1 e 6).bind fun r0=>
  (z1 e 11).bind fun r1=>
  (z1 e 25).bind fun r2=>
  bif 0≤a&&a<((64:Nat):Int) then
  bif (Nat.blt a.toNat 64) then
  bif (Nat.beq 64 i.length) then
  bif 0≤a&&a<(i.length:Int) then
  (z1 f 2).bind fun r3=>
  (z1 f 13).bind fun r4=>
  (z1 f 22).bind fun r5=>
  k (.c0 (w32 ((w32 ((w32 ((w32 ((w32 (q+(w32 (((BitVec.toNat ((BitVec.ofInt (IntKind.bits IntKind.u32) (w32 (((BitVec.toNat ((BitVec.ofInt (IntKind.bits IntKind.u32) r0) ^^^ (BitVec.ofInt (IntKind.bits IntKind.u32) r1))):Nat):Int))) ^^^ (BitVec.ofInt (IntKind.bits IntKind.u32) r2))):Nat):Int))))+(w32 (((BitVec.toNat ((BitVec.ofInt (IntKind.bits IntKind.u32) (w32 (((BitVec.toNat ((BitVec.ofInt (IntKind.bits IntKind.u32) e) &&& (BitVec.ofInt (IntKind.bits IntKind.u32) o))):Nat):Int))) ^^^ (BitVec.ofInt (IntKind.bits IntKind.u32) (w32 (((BitVec.toNat ((BitVec.ofInt (IntKind.bits IntKind.u32) (w32 (((BitVec.toNat ((BitVec.ofInt (IntKind.bits IntKind.u32) (ite ((IntKind.signed IntKind.u32)=true) (-(1:Int)) (IntKind.max IntKind.u32))) ^^^ (BitVec.ofInt (IntKind.bits IntKind.u32) e))):Nat):Int))) &&& (BitVec.ofInt (IntKind.bits IntKind.u32) p))):Nat):Int))))):Nat):Int))))+([(1116352408:Int),(1899447441:Int),(3049323471:Int),(3921009573:Int),(961987163:Int),(1508970993:Int),(2453635748:Int),(2870763221:Int),(3624381080:Int),(310598401:Int),(607225278:Int),(1426881987:Int),(1925078388:Int),(2162078206:Int),(2614888103:Int),(3248222580:Int),(3835390401:Int),(4022224774:Int),(264347078:Int),(604807628:Int),(770255983:Int),(1249150122:Int),(1555081692:Int),(1996064986:Int),(2554220882:Int),(2821834349:Int),(2952996808:Int),(3210313671:Int),(3336571891:Int),(3584528711:Int),(113926993:Int),(338241895:Int),(666307205:Int),(773529912:Int),(1294757372:Int),(1396182291:Int),(1695183700:Int),(1986661051:Int),(2177026350:Int),(2456956037:Int),(2730485921:Int),(2820302411:Int),(3259730800:Int),(3345764771:Int),(3516065817:Int),(3600352804:Int),(4094571909:Int),(275423344:Int),(430227734:Int),(506948616:Int),(659060556:Int),(883997877:Int),(958139571:Int),(1322822218:Int),(1537002063:Int),(1747873779:Int),(1955562222:Int),(2024104815:Int),(2227730452:Int),(2361852424:Int),(2428436474:Int),(2756734187:Int),(3204031479:Int),(3329325298:Int)].getD a.toNat 0)))+(i.getD a.toNat 0)))+(w32 ((w32 (((BitVec.toNat ((BitVec.ofInt (IntKind.bits IntKind.u32) (w32 (((BitVec.toNat ((BitVec.ofInt (IntKind.bits IntKind.u32) r3) ^^^ (BitVec.ofInt (IntKind.bits IntKind.u32) r4))):Nat):Int))) ^^^ (BitVec.ofInt (IntKind.bits IntKind.u32) r5))):Nat):Int))+(w32 (((BitVec.toNat ((BitVec.ofInt (IntKind.bits IntKind.u32) (w32 (((BitVec.toNat ((BitVec.ofInt (IntKind.bits IntKind.u32) (w32 (((BitVec.toNat ((BitVec.ofInt (IntKind.bits IntKind.u32) f) &&& (BitVec.ofInt (IntKind.bits IntKind.u32) j))):Nat):Int))) ^^^ (BitVec.ofInt (IntKind.bits IntKind.u32) (w32 (((BitVec.toNat ((BitVec.ofInt (IntKind.bits IntKind.u32) f) &&& (BitVec.ofInt (IntKind.bits IntKind.u32) n))):Nat):Int))))):Nat):Int))) ^^^ (BitVec.ofInt (IntKind.bits IntKind.u32) (w32 (((BitVec.toNat ((BitVec.ofInt (IntKind.bits IntKind.u32) j) &&& (BitVec.ofInt (IntKind.bits IntKind.u32) n))):Nat):Int))))):Nat):Int)))))) f j n (w32 (t+(w32 ((w32 ((w32 ((w32 (q+(w32 (((BitVec.toNat ((BitVec.ofInt (IntKind.bits IntKind.u32) (w32 (((BitVec.toNat ((BitVec.ofInt (IntKind.bits IntKind.u32) r0) ^^^ (BitVec.ofInt (IntKind.bits IntKind.u32) r1))):Nat):Int))) ^^^ (BitVec.ofInt (IntKind.bits IntKind.u32) r2))):Nat):Int))))+(w32 (((BitVec.toNat ((BitVec.ofInt (IntKind.bits IntKind.u32) (w32 (((BitVec.toNat ((BitVec.ofInt (IntKind.bits IntKind.u32) e) &&& (BitVec.ofInt (IntKind.bits IntKind.u32) o))):Nat):Int))) ^^^ (BitVec.ofInt (IntKind.bits IntKind.u32) (w32 (((BitVec.toNat ((BitVec.ofInt (IntKind.bits IntKind.u32) (w32 (((BitVec.toNat ((BitVec.ofInt (IntKind.bits IntKind.u32) (ite ((IntKind.signed IntKind.u32)=true) (-(1:Int)) (IntKind.max IntKind.u32))) ^^^ (BitVec.ofInt (IntKind.bits IntKind.u32) e))):Nat):Int))) &&& (BitVec.ofInt (IntKind.bits IntKind.u32) p))):Nat):Int))))):Nat):Int))))+([(1116352408:Int),(1899447441:Int),(3049323471:Int),(3921009573:Int),(961987163:Int),(1508970993:Int),(2453635748:Int),(2870763221:Int),(3624381080:Int),(310598401:Int),(607225278:Int),(1426881987:Int),(1925078388:Int),(2162078206:Int),(2614888103:Int),(3248222580:Int),(3835390401:Int),(4022224774:Int),(264347078:Int),(604807628:Int),(770255983:Int),(1249150122:Int),(1555081692:Int),(1996064986:Int),(2554220882:Int),(2821834349:Int),(2952996808:Int),(3210313671:Int),(3336571891:Int),(3584528711:Int),(113926993:Int),(338241895:Int),(666307205:Int),(773529912:Int),(1294757372:Int),(1396182291:Int),(1695183700:Int),(1986661051:Int),(2177026350:Int),(2456956037:Int),(2730485921:Int),(2820302411:Int),(3259730800:Int),(3345764771:Int),(3516065817:Int),(3600352804:Int),(4094571909:Int),(275423344:Int),(430227734:Int),(506948616:Int),(659060556:Int),(883997877:Int),(958139571:Int),(1322822218:Int),(1537002063:Int),(1747873779:Int),(1955562222:Int),(2024104815:Int),(2227730452:Int),(2361852424:Int),(2428436474:Int),(2756734187:Int),(3204031479:Int),(3329325298:Int)].getD a.toNat 0)))+(i.getD a.toNat 0))))) e o p (w64 (a+1)) g h i)
  else none
  else none
  else none
  else none
 else
  k (.c1 0 g h [f,j,n,t,e,o,p,q])
 | .c1 b g h d=>
 bif b<8 then
  bif (Nat.beq 8 d.length) then
  bif 0≤b&&b<(d.length:Int) then
  bif (Nat.beq 8 g.length) then
  bif 0≤b&&b<(g.length:Int) then
  bif (Nat.beq 8 d.length) then
  bif 0≤b&&b<(d.length:Int) then
  k (.c1 (w64 (b+1)) g h (d.set b.toNat (w32 ((d.getD b.toNat 0)+(g.getD b.toNat 0)))))
  else none
  else none
  else none
  else none
  else none
  else none
 else
  bif (Nat.beq 8 d.length) then
  bif ((Nat.beq d.length h.length) && (Nat.beq 8 d.length)) then
  bif ((Nat.beq 8 d.length) && true) then
  some d
  else none
  else none
  else none
noncomputable def He:Nat→Qv→Option (List Int)
 | 0,_=>none
 | m+1,s=>Uo Pv Vb (He m) s
noncomputable def Sv:OAD:=PAD Pv Vb (He gas)
theorem PAR:Tells ctx PP 125 cv43 cv41 (fun a=>Sv a.1 a.2):=fz (cc1 NAR (cc2 WAJ cn)) Tryz.func125 [] OAR (fun z=>Uo z.1 z.2.1) (fun z k a=>PAD z.1 z.2.1 k a.1 a.2) He gas (fun s s' h=>by cases s <;> cases s' <;> first | (cases h;done) | (cases h;rfl) | exact (rg_ne h (by kernel_rfl)).elim) (fun _ _ s=>by cases s <;> kernel_rfl) fun _ _ _=>by kernel_rfl
abbrev XAJ:=(List Int)→ByteArray→Option ((List Int)×ByteArray)
inductive Tv where
 | c0 (a:ByteArray) (b d:(List Int))
noncomputable def QAR:Tv→LI
 | .c0 a b d=>(tdo Tryz.f88 96,[(1,[.one (.str a)]),(2,[.one (.ptr 128 0)]),(4,[.one (.ptr 256 0)])],[(128,.ar 133 b),(256,.ar 133 d)])
noncomputable def QAD (z0:OAD) (k:Tv→Option ((List Int)×ByteArray)) (a:(List Int)) (b:ByteArray):Option ((List Int)×ByteArray):=
 k (.c0 b a [0,0,0,0,0,0,0,0])
noncomputable def D6 (z0:OAD) (k:Tv→Option ((List Int)×ByteArray)):Tv→Option ((List Int)×ByteArray)
 | .c0 b a d=>
 bif (b.size:Int)≥64 then
  bif (Nat.beq 8 a.length) then
  bif (0:Int)≤(64:Int)&&64≤(b.size:Int) then
  (z0 a (b.extract 0 (64:Int).toNat)).bind fun r0=>
  bif ((Nat.beq r0.length a.length) && (Nat.beq 8 r0.length)) then
  bif (0:Int)≤(64:Int)&&64≤(b.size:Int) then
  k (.c0 (b.extract (64:Int).toNat b.size) r0 d)
  else none
  else none
  else none
  else none
 else
  bif (Nat.beq 8 a.length) then
  bif ((Nat.beq a.length d.length) && (Nat.beq 8 a.length)) then
  bif ((Nat.beq 8 a.length) && true) then
  some (a,b)
  else none
  else none
  else none
noncomputable def Vo:Nat→Tv→Option ((List Int)×ByteArray)
 | 0,_=>none
 | m+1,s=>D6 Sv (Vo m) s
noncomputable def F6:XAJ:=QAD Sv (Vo gas)
theorem RAR:Tells ctx PP 88 cv43 cv43 (fun a=>F6 a.1 a.2):=fz (cc2 PAR cn) Tryz.func88 [] QAR (fun z=>D6 z.1) (fun z k a=>QAD z.1 k a.1 a.2) Vo gas (fun s s' h=>by cases s;cases s';cases h;rfl) (fun _ _ s=>by cases s <;> kernel_rfl) fun _ _ _=>by kernel_rfl
abbrev YAJ:=(List Int)→Option ByteArray
inductive Wv where
 | c0 (a:ByteArray) (b:(List Int)) (d:Int)
noncomputable def SAR:Wv→LI
 | .c0 a b d=>(tdo Tryz.f91 232,[(3,[.one (.str a)]),(6,[.arr 133 b]),(7,[.one (.int .i64 d)])],[])
noncomputable def RAD (z0:V5) (k:Wv→Option ByteArray) (a:(List Int)):Option ByteArray:=
 bif (Nat.beq 8 a.length) then
 k (.c0 ⟨#[]⟩ a 0)
 else none
noncomputable def G6 (z0:V5) (k:Wv→Option ByteArray):Wv→Option ByteArray
 | .c0 d b a=>
 bif a<8 then
  bif (Nat.beq 8 b.length) then
  bif 0≤a&&a<(b.length:Int) then
  (z0 (b.getD a.toNat 0)).bind fun r0=>
  bif (d.size+r0.size)≤9223372036854775807 then
  k (.c0 (d++r0) b (w64 (a+1)))
  else none
  else none
  else none
 else
  some d
noncomputable def Xo:Nat→Wv→Option ByteArray
 | 0,_=>none
 | m+1,s=>G6 Ro (Xo m) s
noncomputable def H6:YAJ:=RAD Ro (Xo gas)
theorem TAR:Tells ctx PP 91 cv41 cv8 (fun a=>H6 a):=fz (cc1 SAJ cn) Tryz.func91 [] SAR (fun z=>G6 z.1) (fun z k a=>RAD z.1 k a) Xo gas (fun s s' h=>by cases s;cases s';cases h;rfl) (fun _ _ s=>by cases s <;> kernel_rfl) fun _ _ _=>by kernel_rfl
abbrev J6:=ByteArray→Option ByteArray
noncomputable def SAD (z0:PAJ) (z1:UAJ) (z2:XAJ) (z3:YAJ) (a:ByteArray):Option ByteArray:=
 z0.bind fun r0=>
 (z1 (a.size:Int)).bind fun r1=>
 bif (a.size+r1.size)≤9223372036854775807 then
 (z2 r0 (a++r1)).bind fun r2=>
 bif ((Nat.beq r2.1.length 8) && (Nat.beq 8 r2.1.length)) then
 bif (Nat.beq 8 r2.1.length) then
 (z3 r2.1).bind fun r3=>
 some r3
 else none
 else none
 else none
noncomputable def Yf:J6:=SAD EAD Y5 F6 H6
theorem ZAJ:Tells ctx PP 50 cv8 cv8 (fun a=>Yf a):=fz0 (cc0 HAR (cc1 KAR (cc2 RAR (cc1 TAR cn)))) Tryz.func50 [] (fun z a=>SAD z.1 z.2.1 z.2.2.1 z.2.2.2.1 a) fun _ _=>by kernel_rfl
abbrev Zf:=Int→Option ByteArray
noncomputable def TAD (a:Int):Option ByteArray:=
 some (ofBytes [(w8 a)])
noncomputable def Nc:Zf:=TAD
theorem Xv:Tells ctx PP 30 cv1 cv8 (fun a=>Nc a):=fz0 cn Tryz.func30 [] (fun _ a=>TAD a) fun _ _=>by kernel_rfl
abbrev AAK:=ByteArray→Option (List Int)
inductive Yv where
 | c0 (a:ByteArray) (b:Int) (d e:(List Int))
noncomputable def UAR:Yv→LI
 | .c0 a b d e=>(tdo Tryz.f224 232,[(0,[.one (.str a)]),(2,[.one (.ptr 128 0)]),(3,[.one (.ptr 192 0)]),(5,[.one (.int .i64 b)])],[(128,.ar 253 d),(192,.ar 253 e)])
noncomputable def UAD (k:Yv→Option (List Int)) (a:ByteArray):Option (List Int):=
 k (.c0 a 0 (List.replicate 25 (0:Int)) (List.replicate 25 (0:Int)))
noncomputable def L6 (k:Yv→Option (List Int)):Yv→Option (List Int)
 | .c0 d a e b=>
 bif a<200 then
  bif (Nat.beq 25 b.length) then
  bif 0≤(w64 (a.tdiv 8))&&(w64 (a.tdiv 8))<(b.length:Int) then
  bif 0≤a&&a<(d.size:Int) then
  bif 0≤(w64 (8*(a.tmod 8))) then
  bif (Nat.beq 25 b.length) then
  bif 0≤(w64 (a.tdiv 8))&&(w64 (a.tdiv 8))<(b.length:Int) then
  k (.c0 d (w64 (a+1)) e (b.set (w64 (a.tdiv 8)).toNat (wu64 (((BitVec.toNat ((BitVec.ofInt (IntKind.bits IntKind.u64) (b.getD (w64 (a.tdiv 8)).toNat 0)) ||| (BitVec.ofInt (IntKind.bits IntKind.u64) (wu64 ((wu64 (bt d a))*(2 ^ (Min.min (w64 (8*(a.tmod 8))).toNat (IntKind.bits IntKind.u64)))))))):Nat):Int))))
  else none
  else none
  else none
  else none
  else none
  else none
 else
  bif (Nat.beq 25 b.length) then
  bif ((Nat.beq b.length e.length) && (Nat.beq 25 b.length)) then
  bif ((Nat.beq 25 b.length) && true) then
  some b
  else none
  else none
  else none
noncomputable def Yo:Nat→Yv→Option (List Int)
 | 0,_=>none
 | m+1,s=>L6 (Yo m) s
noncomputable def O6:AAK:=UAD (Yo gas)
theorem WAR:Tells ctx PP 224 cv8 cv44 (fun a=>O6 a):=fz cn Tryz.func224 [] UAR (fun _=>L6) (fun _ k a=>UAD k a) Yo gas (fun s s' h=>by cases s;cases s';cases h;rfl) (fun _ _ s=>by cases s <;> kernel_rfl) fun _ _ _=>by kernel_rfl
abbrev Zv:=Int→Int→Option Int
noncomputable def VAD (b:Int) (a:Int):Option Int:=
 bif 0≤(wu64 (64 - (wu64 (((BitVec.toNat ((BitVec.ofInt (IntKind.bits IntKind.u64) (wu64 a)) &&& (BitVec.ofInt (IntKind.bits IntKind.u64) 63))):Nat):Int)))) then
 some (wu64 (((BitVec.toNat ((BitVec.ofInt (IntKind.bits IntKind.u64) (wu64 (b*(2 ^ (Min.min (wu64 (((BitVec.toNat ((BitVec.ofInt (IntKind.bits IntKind.u64) (wu64 a)) &&& (BitVec.ofInt (IntKind.bits IntKind.u64) 63))):Nat):Int)).toNat (IntKind.bits IntKind.u64)))))) ||| (BitVec.ofInt (IntKind.bits IntKind.u64) (Int.fdiv b (2 ^ (Min.min (wu64 (64 - (wu64 (((BitVec.toNat ((BitVec.ofInt (IntKind.bits IntKind.u64) (wu64 a)) &&& (BitVec.ofInt (IntKind.bits IntKind.u64) 63))):Nat):Int)))).toNat (IntKind.bits IntKind.u64))))))):Nat):Int))
 else none
noncomputable def Yi:Zv:=VAD
theorem BAK:Tells ctx PP 260 cv18 cv19 (fun a=>Yi a.1 a.2):=fz0 cn Tryz.func260 [] (fun _ a=>VAD a.1 a.2) fun _ _=>by kernel_rfl
abbrev WAD:=(List Int)→Option (List Int)
inductive Aw where
 | c0 (e:(List Int)) (f:Int) (a b d:(List Int))
 | c1 (g:Int) (a b d:(List Int))
noncomputable def XAR:Aw→LI
 | .c0 e f a b d=>(tdo Tryz.f239 232,[(1,[.one (.ptr 64 0)]),(2,[.one (.ptr 128 0)]),(3,[.one (.ptr 192 0)]),(8,[.arr 253 e]),(9,[.one (.int .i64 f)])],[(64,.ar 253 a),(128,.ar 253 b),(192,.ar 253 d)])
 | .c1 g a b d=>(tdo Tryz.f239 488,[(1,[.one (.ptr 64 0)]),(2,[.one (.ptr 128 0)]),(3,[.one (.ptr 192 0)]),(21,[.one (.int .i64 g)])],[(64,.ar 253 a),(128,.ar 253 b),(192,.ar 253 d)])
noncomputable def XAD (z0:Zv) (k:Aw→Option (List Int)) (a:(List Int)):Option (List Int):=
 bif (Nat.beq 25 a.length) then
 k (.c0 a 0 a (List.replicate 25 (0:Int)) [0,0,0,0,0])
 else none
noncomputable def Zo (z0:Zv) (k:Aw→Option (List Int)):Aw→Option (List Int)
 | .c0 g e b f a=>
 bif e<25 then
  bif (Nat.beq 25 g.length) then
  bif 0≤e&&e<(g.length:Int) then
  bif (Nat.beq 5 a.length) then
  bif 0≤(e.tmod 5)&&(e.tmod 5)<(a.length:Int) then
  bif (Nat.beq 5 a.length) then
  bif 0≤(e.tmod 5)&&(e.tmod 5)<(a.length:Int) then
  k (.c0 g (w64 (e+1)) b f (a.set (e.tmod 5).toNat (wu64 (((BitVec.toNat ((BitVec.ofInt (IntKind.bits IntKind.u64) (a.getD (e.tmod 5).toNat 0)) ^^^ (BitVec.ofInt (IntKind.bits IntKind.u64) (g.getD e.toNat 0)))):Nat):Int))))
  else none
  else none
  else none
  else none
  else none
  else none
 else
  k (.c1 0 b f a)
 | .c1 d b f a=>
 bif d<25 then
  bif (Nat.beq 25 b.length) then
  bif 0≤d&&d<(b.length:Int) then
  bif (Nat.beq 5 a.length) then
  bif 0≤((w64 ((d.tmod 5)+4)).tmod 5)&&((w64 ((d.tmod 5)+4)).tmod 5)<(a.length:Int) then
  bif (Nat.beq 5 a.length) then
  bif 0≤((w64 ((d.tmod 5)+1)).tmod 5)&&((w64 ((d.tmod 5)+1)).tmod 5)<(a.length:Int) then
  (z0 (a.getD ((w64 ((d.tmod 5)+1)).tmod 5).toNat 0) 1).bind fun r0=>
  bif (Nat.beq 25 b.length) then
  bif 0≤d&&d<(b.length:Int) then
  k (.c1 (w64 (d+1)) (b.set d.toNat (wu64 (((BitVec.toNat ((BitVec.ofInt (IntKind.bits IntKind.u64) (b.getD d.toNat 0)) ^^^ (BitVec.ofInt (IntKind.bits IntKind.u64) (wu64 (((BitVec.toNat ((BitVec.ofInt (IntKind.bits IntKind.u64) (a.getD ((w64 ((d.tmod 5)+4)).tmod 5).toNat 0)) ^^^ (BitVec.ofInt (IntKind.bits IntKind.u64) r0))):Nat):Int))))):Nat):Int))) f a)
  else none
  else none
  else none
  else none
  else none
  else none
  else none
  else none
 else
  bif (Nat.beq 25 b.length) then
  bif ((Nat.beq b.length f.length) && (Nat.beq 25 b.length)) then
  bif ((Nat.beq 25 b.length) && true) then
  some b
  else none
  else none
  else none
noncomputable def Lh:Nat→Aw→Option (List Int)
 | 0,_=>none
 | m+1,s=>Zo Yi (Lh m) s
noncomputable def Dw:WAD:=XAD Yi (Lh gas)
theorem YAR:Tells ctx PP 239 cv44 cv44 (fun a=>Dw a):=fz (cc2 BAK cn) Tryz.func239 [] XAR (fun z=>Zo z.1) (fun z k a=>XAD z.1 k a) Lh gas (fun s s' h=>by cases s <;> cases s' <;> first | (cases h;done) | (cases h;rfl) | exact (rg_ne h (by kernel_rfl)).elim) (fun _ _ s=>by cases s <;> kernel_rfl) fun _ _ _=>by kernel_rfl
abbrev YAD:=(List Int)→Option (List Int)
inductive Ew where
 | c0 (a b d:Int) (e f g:(List Int))
noncomputable def ZAR:Ew→LI
 | .c0 a b d e f g=>(tdo Tryz.f240 1000,[(1,[.one (.ptr 64 0)]),(2,[.one (.ptr 128 0)]),(3,[.one (.ptr 192 0)]),(4,[.one (.int .i64 a)]),(5,[.one (.int .i64 b)]),(13,[.one (.int .i64 d)])],[(64,.ar 253 e),(128,.ar 253 f),(192,.ar 253 g)])
noncomputable def ZAD (z0:Zv) (k:Ew→Option (List Int)) (a:(List Int)):Option (List Int):=
 bif (Nat.beq 25 a.length) then
 bif (0:Int)≤(0:Int)&&0<(a.length:Int) then
 k (.c0 1 0 0 a (List.replicate 25 (0:Int)) [(a.getD (0:Int).toNat 0),0,0,0,0,0,0,0,0,0,0,0,0,0,0,0,0,0,0,0,0,0,0,0,0])
 else none
 else none
noncomputable def P6 (z0:Zv) (k:Ew→Option (List Int)):Ew→Option (List Int)
 | .c0 d a e f g b=>
 bif e<24 then
  bif (Nat.beq 25 f.length) then
  bif 0≤(w64 (d+(w64 (5*a))))&&(w64 (d+(w64 (5*a))))<(f.length:Int) then
  (z0 (f.getD (w64 (d+(w64 (5*a)))).toNat 0) ((w64 ((w64 ((w64 (e+1))*(w64 (e+2)))).tdiv 2)).tmod 64)).bind fun r0=>
  bif (Nat.beq 25 b.length) then
  bif 0≤(w64 (a+(w64 (5*((w64 ((w64 (2*d))+(w64 (3*a)))).tmod 5)))))&&(w64 (a+(w64 (5*((w64 ((w64 (2*d))+(w64 (3*a)))).tmod 5)))))<(b.length:Int) then
  k (.c0 a ((w64 ((w64 (2*d))+(w64 (3*a)))).tmod 5) (w64 (e+1)) f g (b.set (w64 (a+(w64 (5*((w64 ((w64 (2*d))+(w64 (3*a)))).tmod 5))))).toNat r0))
  else none
  else none
  else none
  else none
 else
  bif (Nat.beq 25 b.length) then
  bif ((Nat.beq b.length g.length) && (Nat.beq 25 b.length)) then
  bif ((Nat.beq 25 b.length) && true) then
  some b
  else none
  else none
  else none
noncomputable def Ap:Nat→Ew→Option (List Int)
 | 0,_=>none
 | m+1,s=>P6 Yi (Ap m) s
noncomputable def Gw:YAD:=ZAD Yi (Ap gas)
theorem AAS:Tells ctx PP 240 cv44 cv44 (fun a=>Gw a):=fz (cc2 BAK cn) Tryz.func240 [] ZAR (fun z=>P6 z.1) (fun z k a=>ZAD z.1 k a) Ap gas (fun s s' h=>by cases s;cases s';cases h;rfl) (fun _ _ s=>by cases s <;> kernel_rfl) fun _ _ _=>by kernel_rfl
abbrev AAE:=(List Int)→Option (List Int)
inductive Hw where
 | c0 (a:Int) (b d e:(List Int))
 | c1 (f a g:Int) (b d e:(List Int))
noncomputable def BAS:Hw→LI
 | .c0 a b d e=>(tdo Tryz.f241 232,[(1,[.one (.ptr 64 0)]),(2,[.one (.ptr 128 0)]),(3,[.one (.ptr 192 0)]),(6,[.one (.int .i64 a)])],[(64,.ar 253 b),(128,.ar 253 d),(192,.ar 253 e)])
 | .c1 f a g b d e=>(tdo Tryz.f241 59800,[(1,[.one (.ptr 64 0)]),(2,[.one (.ptr 128 0)]),(3,[.one (.ptr 192 0)]),(4,[.one (.int .i64 f)]),(6,[.one (.int .i64 a)]),(9,[.one (.int .i64 g)])],[(64,.ar 253 b),(128,.ar 253 d),(192,.ar 253 e)])
noncomputable def BAE (k:Hw→Option (List Int)) (a:(List Int)):Option (List Int):=
 k (.c0 0 a (List.replicate 25 (0:Int)) (List.replicate 25 (0:Int)))
noncomputable def Dp (k:Hw→Option (List Int)):Hw→Option (List Int)
 | .c0 f b g e=>
 bif f<5 then
  k (.c1 f f 0 b g e)
 else
  bif (Nat.beq 25 e.length) then
  bif ((Nat.beq e.length g.length) && (Nat.beq 25 e.length)) then
  bif ((Nat.beq 25 e.length) && true) then
  some e
  else none
  else none
  else none
 | .c1 d f a b g e=>
 bif a<5 then
  bif (Nat.beq 25 b.length) then
  bif 0≤(w64 (a+(w64 (5*d))))&&(w64 (a+(w64 (5*d))))<(b.length:Int) then
  bif (Nat.beq 25 b.length) then
  bif 0≤(w64 (((w64 (a+1)).tmod 5)+(w64 (5*d))))&&(w64 (((w64 (a+1)).tmod 5)+(w64 (5*d))))<(b.length:Int) then
  bif (Nat.beq 25 b.length) then
  bif 0≤(w64 (((w64 (a+2)).tmod 5)+(w64 (5*d))))&&(w64 (((w64 (a+2)).tmod 5)+(w64 (5*d))))<(b.length:Int) then
  bif (Nat.beq 25 e.length) then
  bif 0≤(w64 (a+(w64 (5*d))))&&(w64 (a+(w64 (5*d))))<(e.length:Int) then
  k (.c1 d f (w64 (a+1)) b g (e.set (w64 (a+(w64 (5*d)))).toNat (wu64 (((BitVec.toNat ((BitVec.ofInt (IntKind.bits IntKind.u64) (b.getD (w64 (a+(w64 (5*d)))).toNat 0)) ^^^ (BitVec.ofInt (IntKind.bits IntKind.u64) (wu64 (((BitVec.toNat ((BitVec.ofInt (IntKind.bits IntKind.u64) (wu64 (((BitVec.toNat ((BitVec.ofInt (IntKind.bits IntKind.u64) (ite ((IntKind.signed IntKind.u64)=true) (-(1:Int)) (IntKind.max IntKind.u64))) ^^^ (BitVec.ofInt (IntKind.bits IntKind.u64) (b.getD (w64 (((w64 (a+1)).tmod 5)+(w64 (5*d)))).toNat 0)))):Nat):Int))) &&& (BitVec.ofInt (IntKind.bits IntKind.u64) (b.getD (w64 (((w64 (a+2)).tmod 5)+(w64 (5*d)))).toNat 0)))):Nat):Int))))):Nat):Int))))
  else none
  else none
  else none
  else none
  else none
  else none
  else none
  else none
 else
  k (.c0 (w64 (f+1)) b g e)
noncomputable def Nh:Nat→Hw→Option (List Int)
 | 0,_=>none
 | m+1,s=>Dp (Nh m) s
noncomputable def Iw:AAE:=BAE (Nh gas)
theorem CAS:Tells ctx PP 241 cv44 cv44 (fun a=>Iw a):=fz cn Tryz.func241 [] BAS (fun _=>Dp) (fun _ k a=>BAE k a) Nh gas (fun s s' h=>by cases s <;> cases s' <;> first | (cases h;done) | (cases h;rfl) | exact (rg_ne h (by kernel_rfl)).elim) (fun _ _ s=>by cases s <;> kernel_rfl) fun _ _ _=>by kernel_rfl
abbrev CAE:=Int→Option Int
inductive Jw where
 | c0 (a b d:Int)
noncomputable def DAS:Jw→LI
 | .c0 a b d=>(tdo Tryz.f261 232,[(3,[.one (.int .i64 a)]),(4,[.one (.int .i64 b)]),(5,[.one (.int .i64 d)])],[])
noncomputable def CAK (k:Jw→Option Int) (a:Int):Option Int:=
 k (.c0 1 a 0)
noncomputable def DAK (k:Jw→Option Int):Jw→Option Int
 | .c0 a b d=>
 bif d<b then
  bif (w64 (a*(2 ^ (Min.min (1:Int).toNat (IntKind.bits IntKind.i64)))))≥256 then
  k (.c0 (w64 (((BitVec.toNat ((BitVec.ofInt (IntKind.bits IntKind.i64) (w64 (((BitVec.toNat ((BitVec.ofInt (IntKind.bits IntKind.i64) (w64 (a*(2 ^ (Min.min (1:Int).toNat (IntKind.bits IntKind.i64)))))) ^^^ (BitVec.ofInt (IntKind.bits IntKind.i64) 113))):Nat):Int))) &&& (BitVec.ofInt (IntKind.bits IntKind.i64) 255))):Nat):Int)) b (w64 (d+1)))
  else
  k (.c0 (w64 (a*(2 ^ (Min.min (1:Int).toNat (IntKind.bits IntKind.i64))))) b (w64 (d+1)))
 else
  some (wu64 (w64 (((BitVec.toNat ((BitVec.ofInt (IntKind.bits IntKind.i64) a) &&& (BitVec.ofInt (IntKind.bits IntKind.i64) 1))):Nat):Int)))
noncomputable def DAE:Nat→Jw→Option Int
 | 0,_=>none
 | m+1,s=>DAK (DAE m) s
noncomputable def EAE:CAE:=CAK (DAE gas)
theorem EAS:Tells ctx PP 261 cv1 cv19 (fun a=>EAE a):=fz cn Tryz.func261 [] DAS (fun _=>DAK) (fun _ k a=>CAK k a) DAE gas (fun s s' h=>by cases s;cases s';cases h;rfl) (fun _ _ s=>by cases s <;> kernel_rfl) fun _ _ _=>by kernel_rfl
abbrev FAE:=Int→Option Int
inductive Kw where
 | c0 (a b d:Int)
noncomputable def FAS:Kw→LI
 | .c0 a b d=>(tdo Tryz.f242 232,[(0,[.one (.int .i64 a)]),(3,[.one (.int .u64 b)]),(5,[.one (.int .i64 d)])],[])
noncomputable def EAK (z0:CAE) (k:Kw→Option Int) (a:Int):Option Int:=
 k (.c0 a 0 0)
noncomputable def FAK (z0:CAE) (k:Kw→Option Int):Kw→Option Int
 | .c0 b d a=>
 bif a<7 then
  (z0 (w64 (a+(w64 (7*b))))).bind fun r0=>
  bif 0≤a then
  bif 0≤(wu64 ((wu64 (1*(2 ^ (Min.min a.toNat (IntKind.bits IntKind.u64))))) - 1)) then
  k (.c0 b (wu64 (((BitVec.toNat ((BitVec.ofInt (IntKind.bits IntKind.u64) d) ||| (BitVec.ofInt (IntKind.bits IntKind.u64) (wu64 (r0*(2 ^ (Min.min (wu64 ((wu64 (1*(2 ^ (Min.min a.toNat (IntKind.bits IntKind.u64))))) - 1)).toNat (IntKind.bits IntKind.u64)))))))):Nat):Int)) (w64 (a+1)))
  else none
  else none
 else
  some d
noncomputable def GAE:Nat→Kw→Option Int
 | 0,_=>none
 | m+1,s=>FAK EAE (GAE m) s
noncomputable def U6:FAE:=EAK EAE (GAE gas)
theorem GAS:Tells ctx PP 242 cv1 cv19 (fun a=>U6 a):=fz (cc1 EAS cn) Tryz.func242 [] FAS (fun z=>FAK z.1) (fun z k a=>EAK z.1 k a) GAE gas (fun s s' h=>by cases s;cases s';cases h;rfl) (fun _ _ s=>by cases s <;> kernel_rfl) fun _ _ _=>by kernel_rfl
abbrev GAK:=(List Int)→Option (List Int)
inductive Nw where
 | c0 (a:Int) (b d:(List Int))
noncomputable def IAS:Nw→LI
 | .c0 a b d=>(tdo Tryz.f223 104,[(1,[.one (.ptr 64 0)]),(2,[.one (.ptr 128 0)]),(4,[.one (.int .i64 a)])],[(64,.ar 253 b),(128,.ar 253 d)])
noncomputable def HAE (z0:WAD) (z1:YAD) (z2:AAE) (z3:FAE) (k:Nw→Option (List Int)) (a:(List Int)):Option (List Int):=
 k (.c0 0 a (List.replicate 25 (0:Int)))
noncomputable def V6 (z0:WAD) (z1:YAD) (z2:AAE) (z3:FAE) (k:Nw→Option (List Int)):Nw→Option (List Int)
 | .c0 b a d=>
 bif b<24 then
  bif (Nat.beq 25 a.length) then
  (z0 a).bind fun r0=>
  (z1 r0).bind fun r1=>
  (z2 r1).bind fun r2=>
  bif ((Nat.beq r2.length a.length) && (Nat.beq 25 r2.length)) then
  bif (Nat.beq 25 r2.length) then
  bif (0:Int)≤(0:Int)&&0<(r2.length:Int) then
  (z3 b).bind fun r3=>
  bif (Nat.beq 25 r2.length) then
  bif (0:Int)≤(0:Int)&&0<(r2.length:Int) then
  k (.c0 (w64 (b+1)) (r2.set (0:Int).toNat (wu64 (((BitVec.toNat ((BitVec.ofInt (IntKind.bits IntKind.u64) (r2.getD (0:Int).toNat 0)) ^^^ (BitVec.ofInt (IntKind.bits IntKind.u64) r3))):Nat):Int))) d)
  else none
  else none
  else none
  else none
  else none
  else none
 else
  bif (Nat.beq 25 a.length) then
  bif ((Nat.beq a.length d.length) && (Nat.beq 25 a.length)) then
  bif ((Nat.beq 25 a.length) && true) then
  some a
  else none
  else none
  else none
noncomputable def Ep:Nat→Nw→Option (List Int)
 | 0,_=>none
 | m+1,s=>V6 Dw Gw Iw U6 (Ep m) s
noncomputable def X6:GAK:=HAE Dw Gw Iw U6 (Ep gas)
theorem JAS:Tells ctx PP 223 cv44 cv44 (fun a=>X6 a):=fz (cc1 YAR (cc1 AAS (cc1 CAS (cc1 GAS cn)))) Tryz.func223 [] IAS (fun z=>V6 z.1 z.2.1 z.2.2.1 z.2.2.2.1) (fun z k a=>HAE z.1 z.2.1 z.2.2.1 z.2.2.2.1 k a) Ep gas (fun s s' h=>by cases s;cases s';cases h;rfl) (fun _ _ s=>by cases s <;> kernel_rfl) fun _ _ _=>by kernel_rfl
abbrev HAK:=(List Int)→Option ByteArray
inductive Qw where
 | c0 (a b:Int) (d e:(List Int))
noncomputable def KAS:Qw→LI
 | .c0 a b d e=>(tdo Tryz.f225 232,[(1,[.one (.ptr 64 0)]),(3,[.one (.own 240)]),(7,[.one (.int .i64 a)]),(8,[.one (.int .i64 b)])],[(64,.ar 253 d),(240,.sl 5 e)])
noncomputable def IAE (k:Qw→Option ByteArray) (a:(List Int)):Option ByteArray:=
 k (.c0 ((List.replicate (200:Int).toNat (0:Int)).length:Int) 0 a (List.replicate (200:Int).toNat (0:Int)))
noncomputable def Y6 (k:Qw→Option ByteArray):Qw→Option ByteArray
 | .c0 e a b d=>
 bif a<e then
  bif (Nat.beq 25 b.length) then
  bif 0≤(w64 (a.tdiv 8))&&(w64 (a.tdiv 8))<(b.length:Int) then
  bif 0≤(w64 (8*(a.tmod 8))) then
  bif 0≤a&&a<(d.length:Int) then
  k (.c0 e (w64 (a+1)) b (d.set a.toNat (w8 (Int.fdiv (b.getD (w64 (a.tdiv 8)).toNat 0) (2 ^ (Min.min (w64 (8*(a.tmod 8))).toNat (IntKind.bits IntKind.u64)))))))
  else none
  else none
  else none
  else none
 else
  some (ofBytes d)
noncomputable def Fp:Nat→Qw→Option ByteArray
 | 0,_=>none
 | m+1,s=>Y6 (Fp m) s
noncomputable def D7:HAK:=IAE (Fp gas)
theorem LAS:Tells ctx PP 225 cv44 cv8 (fun a=>D7 a):=fz cn Tryz.func225 [] KAS (fun _=>Y6) (fun _ k a=>IAE k a) Fp gas (fun s s' h=>by cases s;cases s';cases h;rfl) (fun _ _ s=>by cases s <;> kernel_rfl) fun _ _ _=>by kernel_rfl
abbrev Rw:=ByteArray→Option ByteArray
noncomputable def JAE (z0:AAK) (z1:GAK) (z2:HAK) (a:ByteArray):Option ByteArray:=
 bif ((a.size:Int) != 200) then
 some a
 else
 (z0 a).bind fun r0=>
 (z1 r0).bind fun r1=>
 (z2 r1).bind fun r2=>
 some r2
noncomputable def Rk:Rw:=JAE O6 X6 D7
theorem IAK:Tells ctx PP 199 cv8 cv8 (fun a=>Rk a):=fz0 (cc1 WAR (cc1 JAS (cc1 LAS cn))) Tryz.func199 [] (fun z a=>JAE z.1 z.2.1 z.2.2.1 a) fun _ _=>by kernel_rfl
abbrev JAK:=ByteArray→Int→Int→Option ByteArray
inductive Uw where
 | c0 (a:Int) (b:(List Int))
 | c1 (a d:Int) (b e:(List Int))
 | c2 (a d:Int) (f g:Int) (b e:(List Int))
noncomputable def MAS:Uw→LI
 | .c0 a b=>(tdo Tryz.f198 224,[(1,[.one (.int .i64 a)]),(7,[.one (.own 496)])],[(496,.sl 5 b)])
 | .c1 a d b e=>(tdo Tryz.f198 4048,[(1,[.one (.int .i64 a)]),(7,[.one (.own 496)]),(8,[.one (.own 560)]),(9,[.one (.int .i64 d)])],[(496,.sl 5 b),(560,.sl 5 e)])
 | .c2 a d f g b e=>(tdo Tryz.f198 259208,[(1,[.one (.int .i64 a)]),(7,[.one (.own 496)]),(8,[.one (.own 560)]),(9,[.one (.int .i64 d)]),(40,[.one (.int .i64 f)]),(41,[.one (.int .i64 g)])],[(496,.sl 5 b),(560,.sl 5 e)])
noncomputable def KAE (z0:Rw) (k:Uw→Option ByteArray) (a:ByteArray) (b:Int) (d:Int):Option ByteArray:=
 bif a.size≤9223372036854775807 then
 bif (((bytesOf a).length+1)*1)≤140737488355328 then
 k (.c0 b ((bytesOf a)++[d]))
 else none
 else none
noncomputable def Zi (z0:Rw) (k:Uw→Option ByteArray):Uw→Option ByteArray
 | .c0 b a=>
 bif (!(b == 0)) then
 bif (((a.length:Int).tmod b) != 0) then
  bif ((a.length+1)*1)≤140737488355328 then
  k (.c0 b (a++[(0:Int)]))
  else none
 else
  bif 0≤(w64 ((a.length:Int) - 1))&&(w64 ((a.length:Int) - 1))<(a.length:Int) then
  bif 0≤(w64 ((a.length:Int) - 1))&&(w64 ((a.length:Int) - 1))<(a.length:Int) then
  k (.c1 b 0 (a.set (w64 ((a.length:Int) - 1)).toNat (w8 (((BitVec.toNat ((BitVec.ofInt (IntKind.bits IntKind.u8) (a.getD (w64 ((a.length:Int) - 1)).toNat 0)) ^^^ (BitVec.ofInt (IntKind.bits IntKind.u8) 128))):Nat):Int))) (List.replicate (200:Int).toNat (0:Int)))
  else none
  else none
 else none
 | .c1 b e a f=>
 bif e<(a.length:Int) then
  k (.c2 b e b 0 a f)
 else
  some (ofBytes f)
 | .c2 b e g d a f=>
 bif d<g then
  bif 0≤d&&d<(f.length:Int) then
  bif 0≤(w64 (e+d))&&(w64 (e+d))<(a.length:Int) then
  bif 0≤d&&d<(f.length:Int) then
  k (.c2 b e g (w64 (d+1)) a (f.set d.toNat (w8 (((BitVec.toNat ((BitVec.ofInt (IntKind.bits IntKind.u8) (f.getD d.toNat 0)) ^^^ (BitVec.ofInt (IntKind.bits IntKind.u8) (a.getD (w64 (e+d)).toNat 0)))):Nat):Int))))
  else none
  else none
  else none
 else
  (z0 (ofBytes f)).bind fun r0=>
  bif r0.size≤9223372036854775807 then
  k (.c1 b (w64 (e+b)) a (bytesOf r0))
  else none
noncomputable def Oc:Nat→Uw→Option ByteArray
 | 0,_=>none
 | m+1,s=>Zi Rk (Oc m) s
noncomputable def Vw:JAK:=KAE Rk (Oc gas)
theorem NAS:Tells ctx PP 198 cv22 cv8 (fun a=>Vw a.1 a.2.1 a.2.2):=fz (cc1 IAK cn) Tryz.func198 [] MAS (fun z=>Zi z.1) (fun z k a=>KAE z.1 k a.1 a.2.1 a.2.2) Oc gas (fun s s' h=>by cases s <;> cases s' <;> first | (cases h;done) | (cases h;rfl) | exact (rg_ne h (by kernel_rfl)).elim) (fun _ _ s=>by cases s <;> kernel_rfl) fun _ _ _=>by kernel_rfl
abbrev F7:=ByteArray→Option SStream
noncomputable def LAE (z0:JAK) (a:ByteArray):Option SStream:=
 (z0 a 168 31).bind fun r0=>
 some ⟨r0,0⟩
noncomputable def Gp:F7:=LAE Vw
theorem KAK:Tells ctx PP 156 cv8 cv23 (fun a=>Gp a):=fz0 (cc3 NAS cn) Tryz.func156 [] (fun z a=>LAE z.1 a) fun _ _=>by kernel_rfl
abbrev G7:=SStream→Int→Option (SStream×ByteArray)
inductive Xw where
 | c0 (a:Int) (b:ByteArray) (d e:SStream)
noncomputable def OAS:Xw→LI
 | .c0 d e a b=>(tdo Tryz.f157 480,[(1,[.one (.int .i64 d)]),(2,[.one (.ptr 128 0)]),(4,[.one (.ptr 256 0)]),(6,[.one (.str e)])],[(128,.var [.str a.fState,.int .i64 a.fAt]),(256,.var [.str b.fState,.int .i64 b.fAt])])
noncomputable def MAE (z0:Jh) (z1:Rw) (k:Xw→Option (SStream×ByteArray)) (a:SStream) (b:Int):Option (SStream×ByteArray):=
 (z0 b 0 4000).bind fun r0=>
 bif (!r0) then
 some (a,⟨#[]⟩)
 else
 bif ((a.fState.size:Int) != 200) then
  some (a,⟨#[]⟩)
 else
  (z0 a.fAt 0 168).bind fun r1=>
  bif (!r1) then
  some (a,⟨#[]⟩)
  else
  k (.c0 b ⟨#[]⟩ a ⟨⟨#[]⟩,0⟩)
noncomputable def NAE (z0:Jh) (z1:Rw) (k:Xw→Option (SStream×ByteArray)):Xw→Option (SStream×ByteArray)
 | .c0 d a b e=>
 bif (a.size:Int)<d then
  bif (b.fAt == 168) then
  (z1 b.fState).bind fun r0=>
  bif (((decide ((0:Int)≤(0:Int))) && (decide (0≤(w64 (0+(ite ((w64 ((168:Int) - (0:Int)))<(w64 (d - (a.size:Int)))) (w64 ((168:Int) - (0:Int))) (w64 (d - (a.size:Int))))))))) && (decide ((w64 (0+(ite ((w64 ((168:Int) - (0:Int)))<(w64 (d - (a.size:Int)))) (w64 ((168:Int) - (0:Int))) (w64 (d - (a.size:Int))))))≤(r0.size:Int)))) then
  bif (a.size+(r0.extract (0:Int).toNat (w64 (0+(ite ((w64 ((168:Int) - (0:Int)))<(w64 (d - (a.size:Int)))) (w64 ((168:Int) - (0:Int))) (w64 (d - (a.size:Int)))))).toNat).size)≤9223372036854775807 then
  k (.c0 d (a++(r0.extract (0:Int).toNat (w64 (0+(ite ((w64 ((168:Int) - (0:Int)))<(w64 (d - (a.size:Int)))) (w64 ((168:Int) - (0:Int))) (w64 (d - (a.size:Int)))))).toNat)) ⟨r0,(w64 (0+(ite ((w64 ((168:Int) - (0:Int)))<(w64 (d - (a.size:Int)))) (w64 ((168:Int) - (0:Int))) (w64 (d - (a.size:Int))))))⟩ e)
  else none
  else none
  else
  bif (((decide (0≤b.fAt)) && (decide (b.fAt≤(w64 (b.fAt+(ite ((w64 (168 - b.fAt))<(w64 (d - (a.size:Int)))) (w64 (168 - b.fAt)) (w64 (d - (a.size:Int))))))))) && (decide ((w64 (b.fAt+(ite ((w64 (168 - b.fAt))<(w64 (d - (a.size:Int)))) (w64 (168 - b.fAt)) (w64 (d - (a.size:Int))))))≤(b.fState.size:Int)))) then
  bif (a.size+(b.fState.extract b.fAt.toNat (w64 (b.fAt+(ite ((w64 (168 - b.fAt))<(w64 (d - (a.size:Int)))) (w64 (168 - b.fAt)) (w64 (d - (a.size:Int)))))).toNat).size)≤9223372036854775807 then
  k (.c0 d (a++(b.fState.extract b.fAt.toNat (w64 (b.fAt+(ite ((w64 (168 - b.fAt))<(w64 (d - (a.size:Int)))) (w64 (168 - b.fAt)) (w64 (d - (a.size:Int)))))).toNat)) ⟨b.fState,(w64 (b.fAt+(ite ((w64 (168 - b.fAt))<(w64 (d - (a.size:Int)))) (w64 (168 - b.fAt)) (w64 (d - (a.size:Int))))))⟩ e)
  else none
  else none
 else
  some (b,a)
noncomputable def Ip:Nat→Xw→Option (SStream×ByteArray)
 | 0,_=>none
 | m+1,s=>NAE Xf Rk (Ip m) s
noncomputable def Uk:G7:=MAE Xf Rk (Ip gas)
theorem LAK:Tells ctx PP 157 cv24 cv25 (fun a=>Uk a.1 a.2):=fz (cc3 Kv (cc1 IAK cn)) Tryz.func157 [] OAS (fun z=>NAE z.1 z.2.1) (fun z k a=>MAE z.1 z.2.1 k a.1 a.2) Ip gas (fun s s' h=>by cases s;cases s';(repeat cases ‹SStream›);cases h;rfl) (fun _ _ s=>by cases s <;> kernel_rfl) fun _ _ _=>by kernel_rfl
abbrev OAE:=ByteArray→Int→Option (ByteArray×Bool)
noncomputable def PAE (z0:Jh) (z1:F7) (z2:G7) (b:ByteArray) (a:Int):Option (ByteArray×Bool):=
 (z0 a 0 4000).bind fun r0=>
 bif (!r0) then
 some (⟨#[]⟩,false)
 else
 (z1 b).bind fun r1=>
 (z2 r1 a).bind fun r2=>
 some (r2.2,true)
noncomputable def Jp:OAE:=PAE Xf Gp Uk
theorem PAS:Tells ctx PP 155 cv10 cv28 (fun a=>Jp a.1 a.2):=fz0 (cc3 Kv (cc1 KAK (cc2 LAK cn))) Tryz.func155 [] (fun z a=>PAE z.1 z.2.1 z.2.2.1 a.1 a.2) fun _ _=>by kernel_rfl
abbrev Ue:=Int→Option Int
noncomputable def QAE (a:Int):Option Int:=
 some ((w64 ((a.tmod 3329)+3329)).tmod 3329)
noncomputable def Ld:Ue:=QAE
theorem Yw:Tells ctx PP 154 cv1 cv1 (fun a=>Ld a):=fz0 cn Tryz.func154 [] (fun _ a=>QAE a) fun _ _=>by kernel_rfl
abbrev RAE:=ByteArray→Int→Option (List Int)
inductive Zw where
 | c0 (a:ByteArray) (b d:Int) (e:(List Int))
noncomputable def QAS:Zw→LI
 | .c0 a b d e=>(tdo Tryz.f108 488,[(5,[.one (.str a)]),(7,[.one (.own 496)]),(20,[.one (.int .i64 b)]),(21,[.one (.int .i64 d)])],[(496,.sl 3 e)])
noncomputable def SAE (z0:Zf) (z1:OAE) (z2:Ue) (k:Zw→Option (List Int)) (a:ByteArray) (b:Int):Option (List Int):=
 (z0 b).bind fun r0=>
 bif (a.size+r0.size)≤9223372036854775807 then
 (z1 (a++r0) 128).bind fun r1=>
 k (.c0 r1.1 ((List.replicate (256:Int).toNat (0:Int)).length:Int) 0 (List.replicate (256:Int).toNat (0:Int)))
 else none
noncomputable def H7 (z0:Zf) (z1:OAE) (z2:Ue) (k:Zw→Option (List Int)):Zw→Option (List Int)
 | .c0 b e a d=>
 bif a<e then
  bif 0≤(w64 (a.tdiv 2))&&(w64 (a.tdiv 2))<(b.size:Int) then
  bif 0≤(w64 (4*(a.tmod 2))) then
  (z2 (w64 ((w64 ((w64 ((w64 (((BitVec.toNat ((BitVec.ofInt (IntKind.bits IntKind.i64) (w64 (Int.fdiv (bt b (w64 (a.tdiv 2))) (2 ^ (Min.min (w64 (4*(a.tmod 2))).toNat (IntKind.bits IntKind.u8)))))) &&& (BitVec.ofInt (IntKind.bits IntKind.i64) 1))):Nat):Int))+(w64 (((BitVec.toNat ((BitVec.ofInt (IntKind.bits IntKind.i64) (Int.fdiv (w64 (Int.fdiv (bt b (w64 (a.tdiv 2))) (2 ^ (Min.min (w64 (4*(a.tmod 2))).toNat (IntKind.bits IntKind.u8))))) (2 ^ (Min.min (1:Int).toNat (IntKind.bits IntKind.i64))))) &&& (BitVec.ofInt (IntKind.bits IntKind.i64) 1))):Nat):Int)))) - (w64 (((BitVec.toNat ((BitVec.ofInt (IntKind.bits IntKind.i64) (Int.fdiv (w64 (Int.fdiv (bt b (w64 (a.tdiv 2))) (2 ^ (Min.min (w64 (4*(a.tmod 2))).toNat (IntKind.bits IntKind.u8))))) (2 ^ (Min.min (2:Int).toNat (IntKind.bits IntKind.i64))))) &&& (BitVec.ofInt (IntKind.bits IntKind.i64) 1))):Nat):Int)))) - (w64 (((BitVec.toNat ((BitVec.ofInt (IntKind.bits IntKind.i64) (Int.fdiv (w64 (Int.fdiv (bt b (w64 (a.tdiv 2))) (2 ^ (Min.min (w64 (4*(a.tmod 2))).toNat (IntKind.bits IntKind.u8))))) (2 ^ (Min.min (3:Int).toNat (IntKind.bits IntKind.i64))))) &&& (BitVec.ofInt (IntKind.bits IntKind.i64) 1))):Nat):Int))))).bind fun r0=>
  bif 0≤a&&a<(d.length:Int) then
  k (.c0 b e (w64 (a+1)) (d.set a.toNat r0))
  else none
  else none
  else none
 else
  some d
noncomputable def Np:Nat→Zw→Option (List Int)
 | 0,_=>none
 | m+1,s=>H7 Nc Jp Ld (Np m) s
noncomputable def Dx:RAE:=SAE Nc Jp Ld (Np gas)
theorem RAS:Tells ctx PP 108 cv10 cv17 (fun a=>Dx a.1 a.2):=fz (cc1 Xv (cc2 PAS (cc1 Yw cn))) Tryz.func108 [] QAS (fun z=>H7 z.1 z.2.1 z.2.2.1) (fun z k a=>SAE z.1 z.2.1 z.2.2.1 k a.1 a.2) Np gas (fun s s' h=>by cases s;cases s';cases h;rfl) (fun _ _ s=>by cases s <;> kernel_rfl) fun _ _ _=>by kernel_rfl
abbrev TAE:=ByteArray→Int→Option (List (List Int))
inductive Gx where
 | c0 (a:ByteArray) (b d:Int) (e:(List (List Int)))
noncomputable def SAS:Gx→LI
 | .c0 a b d e=>(tdo Tryz.f61 232,[(0,[.one (.str a)]),(1,[.one (.int .i64 b)]),(5,[.one (.own 368)]),(7,[.one (.int .i64 d)])],[(368,.sl 38 e)])
noncomputable def UAE (z0:RAE) (k:Gx→Option (List (List Int))) (a:ByteArray) (b:Int):Option (List (List Int)):=
 k (.c0 a b 0 [])
noncomputable def Ox (z0:RAE) (k:Gx→Option (List (List Int))):Gx→Option (List (List Int))
 | .c0 d e a b=>
 bif a<2 then
  (z0 d (w64 (e+a))).bind fun r0=>
  bif ((b.length+1)*24)≤140737488355328 then
  k (.c0 d e (w64 (a+1)) (b++[r0]))
  else none
 else
  some b
noncomputable def Qp:Nat→Gx→Option (List (List Int))
 | 0,_=>none
 | m+1,s=>Ox Dx (Qp m) s
noncomputable def Vk:TAE:=UAE Dx (Qp gas)
theorem TAS:Tells ctx PP 61 cv10 cv27 (fun a=>Vk a.1 a.2):=fz (cc2 RAS cn) Tryz.func61 [] SAS (fun z=>Ox z.1) (fun z k a=>UAE z.1 k a.1 a.2) Qp gas (fun s s' h=>by cases s;cases s';cases h;rfl) (fun _ _ s=>by cases s <;> kernel_rfl) fun _ _ _=>by kernel_rfl
abbrev Aj:=(List Int)→Option Bool
inductive Px where
 | c0 (a b:(List Int)) (d e:Int)
noncomputable def UAS:Px→LI
 | .c0 a b d e=>(tdo Tryz.f109 104,[(0,[.one (.rsl 3 a)]),(5,[.one (.rsl 3 b)]),(6,[.one (.int .i64 d)]),(7,[.one (.int .i64 e)])],[])
noncomputable def VAE (z0:Jh) (k:Px→Option Bool) (a:(List Int)):Option Bool:=
 k (.c0 a a (a.length:Int) 0)
noncomputable def I7 (z0:Jh) (k:Px→Option Bool):Px→Option Bool
 | .c0 d b e a=>
 bif a<e then
  bif 0≤a&&a<(b.length:Int) then
  (z0 (b.getD a.toNat 0) 0 3328).bind fun r0=>
  bif (!r0) then
  some false
  else
  k (.c0 d b e (w64 (a+1)))
  else none
 else
  some ((d.length:Int) == 256)
noncomputable def Vp:Nat→Px→Option Bool
 | 0,_=>none
 | m+1,s=>I7 Xf (Vp m) s
noncomputable def Ag:Aj:=VAE Xf (Vp gas)
theorem J7:Tells ctx PP 109 cv29 cv4 (fun a=>Ag a):=fz (cc3 Kv cn) Tryz.func109 [] UAS (fun z=>I7 z.1) (fun z k a=>VAE z.1 k a) Vp gas (fun s s' h=>by cases s;cases s';cases h;rfl) (fun _ _ s=>by cases s <;> kernel_rfl) fun _ _ _=>by kernel_rfl
abbrev WAE:=(List Int)→Option (List Int)
noncomputable def XAE (a:(List Int)):Option (List Int):=
 bif (a.length*8)≤140737488355328 then
 some a
 else none
noncomputable def Qx:WAE:=XAE
theorem VAS:Tells ctx PP 151 cv29 cv17 (fun a=>Qx a):=fz0 cn Tryz.func151 [] (fun _ a=>XAE a) fun _ _=>by kernel_rfl
abbrev Rx:=Int→Option Int
inductive Ux where
 | c0 (a b d:Int)
noncomputable def XAS:Ux→LI
 | .c0 a b d=>(tdo Tryz.f153 232,[(0,[.one (.int .i64 a)]),(3,[.one (.int .i64 b)]),(5,[.one (.int .i64 d)])],[])
noncomputable def YAE (k:Ux→Option Int) (a:Int):Option Int:=
 k (.c0 a 0 0)
noncomputable def N7 (k:Ux→Option Int):Ux→Option Int
 | .c0 b d a=>
 bif a<7 then
  bif 0≤a then
  k (.c0 b (w64 ((w64 (2*d))+(w64 (((BitVec.toNat ((BitVec.ofInt (IntKind.bits IntKind.i64) (Int.fdiv b (2 ^ (Min.min a.toNat (IntKind.bits IntKind.i64))))) &&& (BitVec.ofInt (IntKind.bits IntKind.i64) 1))):Nat):Int)))) (w64 (a+1)))
  else none
 else
  some d
noncomputable def Wp:Nat→Ux→Option Int
 | 0,_=>none
 | m+1,s=>N7 (Wp m) s
noncomputable def Xk:Rx:=YAE (Wp gas)
theorem MAK:Tells ctx PP 153 cv1 cv1 (fun a=>Xk a):=fz cn Tryz.func153 [] XAS (fun _=>N7) (fun _ k a=>YAE k a) Wp gas (fun s s' h=>by cases s;cases s';cases h;rfl) (fun _ _ s=>by cases s <;> kernel_rfl) fun _ _ _=>by kernel_rfl
abbrev Vx:=Int→Int→Option Int
inductive Wx where
 | c0 (a b d:Int)
noncomputable def YAS:Wx→LI
 | .c0 a b d=>(tdo Tryz.f152 992,[(0,[.one (.int .i64 a)]),(1,[.one (.int .i64 b)]),(5,[.one (.int .i64 d)])],[])
noncomputable def ZAE (z0:Jh) (z1:Ue) (k:Wx→Option Int) (b:Int) (a:Int):Option Int:=
 (z0 a 0 1000000000).bind fun r0=>
 bif (!r0) then
 some 0
 else
 (z1 b).bind fun r1=>
 k (.c0 r1 a 1)
noncomputable def AAF (z0:Jh) (z1:Ue) (k:Wx→Option Int):Wx→Option Int
 | .c0 a b d=>
 bif b > 0 then
  bif ((b.tmod 2) == 1) then
  k (.c0 ((w64 (a*a)).tmod 3329) (w64 (b.tdiv 2)) ((w64 (d*a)).tmod 3329))
  else
  k (.c0 ((w64 (a*a)).tmod 3329) (w64 (b.tdiv 2)) d)
 else
  some d
noncomputable def Xx:Nat→Wx→Option Int
 | 0,_=>none
 | m+1,s=>AAF Xf Ld (Xx m) s
noncomputable def Yk:Vx:=ZAE Xf Ld (Xx gas)
theorem NAK:Tells ctx PP 152 cv30 cv1 (fun a=>Yk a.1 a.2):=fz (cc3 Kv (cc1 Yw cn)) Tryz.func152 [] YAS (fun z=>AAF z.1 z.2.1) (fun z k a=>ZAE z.1 z.2.1 k a.1 a.2) Xx gas (fun s s' h=>by cases s;cases s';cases h;rfl) (fun _ _ s=>by cases s <;> kernel_rfl) fun _ _ _=>by kernel_rfl
abbrev BAF:=(List Int)→Option (List Int)
inductive Yx where
 | c0 (a b:Int) (d:(List Int))
 | c1 (a b e:Int) (d:(List Int))
 | c2 (a b:Int) (e f g:Int) (d:(List Int))
noncomputable def ZAS:Yx→LI
 | .c0 a b d=>(tdo Tryz.f107 2000,[(3,[.one (.own 240)]),(4,[.one (.int .i64 a)]),(5,[.one (.int .i64 b)])],[(240,.sl 3 d)])
 | .c1 a b e d=>(tdo Tryz.f107 128144,[(3,[.one (.own 240)]),(4,[.one (.int .i64 a)]),(5,[.one (.int .i64 b)]),(6,[.one (.int .i64 e)])],[(240,.sl 3 d)])
 | .c2 a b e f g d=>(tdo Tryz.f107 32805488,[(3,[.one (.own 240)]),(4,[.one (.int .i64 a)]),(5,[.one (.int .i64 b)]),(6,[.one (.int .i64 e)]),(7,[.one (.int .i64 f)]),(8,[.one (.int .i64 g)])],[(240,.sl 3 d)])
noncomputable def CAF (z0:Aj) (z1:WAE) (z2:Rx) (z3:Vx) (z4:Ue) (k:Yx→Option (List Int)) (a:(List Int)):Option (List Int):=
 (z0 a).bind fun r0=>
 bif (!r0) then
 some []
 else
 (z1 a).bind fun r1=>
 k (.c0 1 128 r1)
noncomputable def Bj (z0:Aj) (z1:WAE) (z2:Rx) (z3:Vx) (z4:Ue) (k:Yx→Option (List Int)):Yx→Option (List Int)
 | .c0 e b d=>
 bif b≥2 then
  k (.c1 e b 0 d)
 else
  some d
 | .c1 e b f d=>
 bif f<256 then
  (z2 e).bind fun r0=>
  (z3 17 r0).bind fun r1=>
  k (.c2 (w64 (e+1)) b f r1 f d)
 else
  k (.c0 e (w64 (b.tdiv 2)) d)
 | .c2 e b f g a d=>
 bif a<(w64 (f+b)) then
  bif 0≤(w64 (a+b))&&(w64 (a+b))<(d.length:Int) then
  bif 0≤a&&a<(d.length:Int) then
  (z4 (w64 ((d.getD a.toNat 0)+(w64 (g*(d.getD (w64 (a+b)).toNat 0)))))).bind fun r0=>
  bif 0≤a&&a<(d.length:Int) then
  (z4 (w64 ((d.getD a.toNat 0) - (w64 (g*(d.getD (w64 (a+b)).toNat 0)))))).bind fun r1=>
  bif 0≤a&&a<(d.length:Int) then
  bif 0≤(w64 (a+b))&&(w64 (a+b))<((d.set a.toNat r0).length:Int) then
  k (.c2 e b f g (w64 (a+1)) ((d.set a.toNat r0).set (w64 (a+b)).toNat r1))
  else none
  else none
  else none
  else none
  else none
 else
  k (.c1 e b (w64 (f+(w64 (2*b)))) d)
noncomputable def Qc:Nat→Yx→Option (List Int)
 | 0,_=>none
 | m+1,s=>Bj Ag Qx Xk Yk Ld (Qc m) s
noncomputable def Zx:BAF:=CAF Ag Qx Xk Yk Ld (Qc gas)
theorem AAT:Tells ctx PP 107 cv29 cv17 (fun a=>Zx a):=fz (cc1 J7 (cc1 VAS (cc1 MAK (cc2 NAK (cc1 Yw cn))))) Tryz.func107 [] ZAS (fun z=>Bj z.1 z.2.1 z.2.2.1 z.2.2.2.1 z.2.2.2.2.1) (fun z k a=>CAF z.1 z.2.1 z.2.2.1 z.2.2.2.1 z.2.2.2.2.1 k a) Qc gas (fun s s' h=>by cases s <;> cases s' <;> first | (cases h;done) | (cases h;rfl) | exact (rg_ne h (by kernel_rfl)).elim) (fun _ _ s=>by cases s <;> kernel_rfl) fun _ _ _=>by kernel_rfl
abbrev DAF:=(List (List Int))→Option (List (List Int))
inductive Dy where
 | c0 (a:(List (List Int))) (b d:Int) (e:(List (List Int)))
noncomputable def BAT:Dy→LI
 | .c0 a b d e=>(tdo Tryz.f60 232,[(3,[.one (.own 240)]),(6,[.one (.rsl 38 a)]),(7,[.one (.int .i64 b)]),(8,[.one (.int .i64 d)])],[(240,.sl 38 e)])
noncomputable def EAF (z0:BAF) (k:Dy→Option (List (List Int))) (a:(List (List Int))):Option (List (List Int)):=
 k (.c0 a (a.length:Int) 0 [])
noncomputable def Ey (z0:BAF) (k:Dy→Option (List (List Int))):Dy→Option (List (List Int))
 | .c0 b e a d=>
 bif a<e then
  bif 0≤a&&a<(b.length:Int) then
  (z0 (b.getD a.toNat [])).bind fun r0=>
  bif ((d.length+1)*24)≤140737488355328 then
  k (.c0 b e (w64 (a+1)) (d++[r0]))
  else none
  else none
 else
  some d
noncomputable def Xp:Nat→Dy→Option (List (List Int))
 | 0,_=>none
 | m+1,s=>Ey Zx (Xp m) s
noncomputable def Zk:DAF:=EAF Zx (Xp gas)
theorem CAT:Tells ctx PP 60 cv45 cv27 (fun a=>Zk a):=fz (cc1 AAT cn) Tryz.func60 [] BAT (fun z=>Ey z.1) (fun z k a=>EAF z.1 k a) Xp gas (fun s s' h=>by cases s;cases s';cases h;rfl) (fun _ _ s=>by cases s <;> kernel_rfl) fun _ _ _=>by kernel_rfl
abbrev FAF:=ByteArray→Int→Int→Option (List Int)
inductive Gy where
 | c0 (a b:Int) (d:SStream) (e:(List Int))
 | c1 (a b:Int) (f g:Int) (d:SStream) (e h:(List Int))
noncomputable def DAT:Gy→LI
 | .c0 b d a e=>(tdo Tryz.f114 2000,[(7,[.one (.ptr 448 0)]),(8,[.one (.own 560)]),(9,[.one (.int .i64 b)]),(10,[.one (.int .i64 d)])],[(448,.var [.str a.fState,.int .i64 a.fAt]),(560,.sl 3 e)])
 | .c1 b d f g a e h=>(tdo Tryz.f114 512632,[(7,[.one (.ptr 448 0)]),(8,[.one (.own 560)]),(9,[.one (.int .i64 b)]),(10,[.one (.int .i64 d)]),(60,[.one (.own 3888)]),(61,[.one (.int .i64 f)]),(62,[.one (.int .i64 g)])],[(448,.var [.str a.fState,.int .i64 a.fAt]),(560,.sl 3 e),(3888,.sl 3 h)])
noncomputable def GAF (z0:Zf) (z1:F7) (z2:G7) (k:Gy→Option (List Int)) (a:ByteArray) (b:Int) (d:Int):Option (List Int):=
 (z0 b).bind fun r0=>
 bif (a.size+r0.size)≤9223372036854775807 then
 (z0 d).bind fun r1=>
 bif ((a++r0).size+r1.size)≤9223372036854775807 then
 (z1 ((a++r0)++r1)).bind fun r2=>
 k (.c0 0 0 r2 (List.replicate (256:Int).toNat (0:Int)))
 else none
 else none
noncomputable def Yp (z0:Zf) (z1:F7) (z2:G7) (k:Gy→Option (List Int)):Gy→Option (List Int)
 | .c0 a e f b=>
 bif e<4000 then
  bif a<256 then
  (z2 f 3).bind fun r0=>
  bif (0:Int)≤(0:Int)&&0<(r0.2.size:Int) then
  bif (0:Int)≤(1:Int)&&1<(r0.2.size:Int) then
  bif (0:Int)≤(2:Int)&&2<(r0.2.size:Int) then
  k (.c1 a e ((2:Nat):Int) 0 r0.1 b [(w64 ((w64 (bt r0.2 0))+(w64 (((w64 (bt r0.2 1)).tmod 16)*256)))),(w64 ((w64 ((w64 (bt r0.2 1)).tdiv 16))+(w64 (16*(w64 (bt r0.2 2))))))])
  else none
  else none
  else none
  else
  some b
 else
  some b
 | .c1 a e h d f b g=>
 bif d<h then
  bif 0≤d&&d<(g.length:Int) then
  bif (g.getD d.toNat 0)<3329 then
  bif a<256 then
   bif 0≤a&&a<(b.length:Int) then
   k (.c1 (w64 (a+1)) e h (w64 (d+1)) f (b.set a.toNat (g.getD d.toNat 0)) g)
   else none
  else
   k (.c1 a e h (w64 (d+1)) f b g)
  else
  k (.c1 a e h (w64 (d+1)) f b g)
  else none
 else
  k (.c0 a (w64 (e+1)) f b)
noncomputable def Ie:Nat→Gy→Option (List Int)
 | 0,_=>none
 | m+1,s=>Yp Nc Gp Uk (Ie m) s
noncomputable def Bl:FAF:=GAF Nc Gp Uk (Ie gas)
theorem EAT:Tells ctx PP 114 cv26 cv17 (fun a=>Bl a.1 a.2.1 a.2.2):=fz (cc1 Xv (cc1 KAK (cc2 LAK cn))) Tryz.func114 [] DAT (fun z=>Yp z.1 z.2.1 z.2.2.1) (fun z k a=>GAF z.1 z.2.1 z.2.2.1 k a.1 a.2.1 a.2.2) Ie gas (fun s s' h=>by cases s <;> cases s' <;> first | ((repeat cases ‹SStream›);cases h;done) | ((repeat cases ‹SStream›);cases h;rfl) | exact (rg_ne h (by kernel_rfl)).elim) (fun _ _ s=>by cases s <;> kernel_rfl) fun _ _ _=>by kernel_rfl
abbrev HAF:=ByteArray→Int→Bool→Option (List (List Int))
inductive Hy where
 | c0 (a:ByteArray) (b:Int) (d:Bool) (e:Int) (f:(List (List Int)))
noncomputable def FAT:Hy→LI
 | .c0 a b d e f=>(tdo Tryz.f65 232,[(0,[.one (.str a)]),(1,[.one (.int .i64 b)]),(2,[.one (.bool d)]),(7,[.one (.own 496)]),(9,[.one (.int .i64 e)])],[(496,.sl 38 f)])
noncomputable def IAF (z0:FAF) (k:Hy→Option (List (List Int))) (a:ByteArray) (b:Int) (d:Bool):Option (List (List Int)):=
 k (.c0 a b d 0 [])
noncomputable def Iy (z0:FAF) (k:Hy→Option (List (List Int))):Hy→Option (List (List Int))
 | .c0 d e f a b=>
 bif a<2 then
  bif f then
  (z0 d e a).bind fun r0=>
  bif ((b.length+1)*24)≤140737488355328 then
  k (.c0 d e f (w64 (a+1)) (b++[r0]))
  else none
  else
  (z0 d a e).bind fun r1=>
  bif ((b.length+1)*24)≤140737488355328 then
  k (.c0 d e f (w64 (a+1)) (b++[r1]))
  else none
 else
  some b
noncomputable def Zp:Nat→Hy→Option (List (List Int))
 | 0,_=>none
 | m+1,s=>Iy Bl (Zp m) s
noncomputable def Dl:HAF:=IAF Bl (Zp gas)
theorem GAT:Tells ctx PP 65 cv46 cv27 (fun a=>Dl a.1 a.2.1 a.2.2):=fz (cc3 EAT cn) Tryz.func65 [] FAT (fun z=>Iy z.1) (fun z k a=>IAF z.1 k a.1 a.2.1 a.2.2) Zp gas (fun s s' h=>by cases s;cases s';cases h;rfl) (fun _ _ s=>by cases s <;> kernel_rfl) fun _ _ _=>by kernel_rfl
abbrev JAF:=(List Int)→(List Int)→Option (List Int)
inductive Jy where
 | c0 (a b:(List Int)) (d:Int) (e:(List Int))
noncomputable def IAT:Jy→LI
 | .c0 a b d e=>(tdo Tryz.f113 488,[(0,[.one (.rsl 3 a)]),(1,[.one (.rsl 3 b)]),(5,[.one (.own 368)]),(21,[.one (.int .i64 d)])],[(368,.sl 3 e)])
noncomputable def KAF (z0:Aj) (z1:Rx) (z2:Vx) (z3:Ue) (k:Jy→Option (List Int)) (a:(List Int)) (b:(List Int)):Option (List Int):=
 (z0 a).bind fun r0=>
 bif (!r0) then
 some []
 else
 (z0 b).bind fun r1=>
 bif (!r1) then
  some []
 else
  k (.c0 a b 0 (List.replicate (256:Int).toNat (0:Int)))
noncomputable def O7 (z0:Aj) (z1:Rx) (z2:Vx) (z3:Ue) (k:Jy→Option (List Int)):Jy→Option (List Int)
 | .c0 b d a e=>
 bif a<128 then
  (z1 a).bind fun r0=>
  (z2 17 (w64 ((w64 (2*r0))+1))).bind fun r1=>
  bif 0≤(w64 (2*a))&&(w64 (2*a))<(b.length:Int) then
  bif 0≤(w64 ((w64 (2*a))+1))&&(w64 ((w64 (2*a))+1))<(b.length:Int) then
  bif 0≤(w64 (2*a))&&(w64 (2*a))<(d.length:Int) then
  bif 0≤(w64 ((w64 (2*a))+1))&&(w64 ((w64 (2*a))+1))<(d.length:Int) then
  (z3 (w64 ((w64 ((b.getD (w64 (2*a)).toNat 0)*(d.getD (w64 (2*a)).toNat 0)))+(w64 (((w64 ((b.getD (w64 ((w64 (2*a))+1)).toNat 0)*(d.getD (w64 ((w64 (2*a))+1)).toNat 0))).tmod 3329)*r1))))).bind fun r2=>
  bif 0≤(w64 (2*a))&&(w64 (2*a))<(e.length:Int) then
  (z3 (w64 ((w64 ((b.getD (w64 (2*a)).toNat 0)*(d.getD (w64 ((w64 (2*a))+1)).toNat 0)))+(w64 ((b.getD (w64 ((w64 (2*a))+1)).toNat 0)*(d.getD (w64 (2*a)).toNat 0)))))).bind fun r3=>
  bif 0≤(w64 ((w64 (2*a))+1))&&(w64 ((w64 (2*a))+1))<((e.set (w64 (2*a)).toNat r2).length:Int) then
  k (.c0 b d (w64 (a+1)) ((e.set (w64 (2*a)).toNat r2).set (w64 ((w64 (2*a))+1)).toNat r3))
  else none
  else none
  else none
  else none
  else none
  else none
 else
  some e
noncomputable def Aq:Nat→Jy→Option (List Int)
 | 0,_=>none
 | m+1,s=>O7 Ag Xk Yk Ld (Aq m) s
noncomputable def Ky:JAF:=KAF Ag Xk Yk Ld (Aq gas)
theorem JAT:Tells ctx PP 113 cv32 cv17 (fun a=>Ky a.1 a.2):=fz (cc1 J7 (cc1 MAK (cc2 NAK (cc1 Yw cn)))) Tryz.func113 [] IAT (fun z=>O7 z.1 z.2.1 z.2.2.1 z.2.2.2.1) (fun z k a=>KAF z.1 z.2.1 z.2.2.1 z.2.2.2.1 k a.1 a.2) Aq gas (fun s s' h=>by cases s;cases s';cases h;rfl) (fun _ _ s=>by cases s <;> kernel_rfl) fun _ _ _=>by kernel_rfl
abbrev LAF:=Int→Int→Option Int
noncomputable def MAF (a:Int) (b:Int):Option Int:=
 some (w64 (a+b))
noncomputable def P7:LAF:=MAF
theorem KAT:Tells ctx PP 112 cv30 cv1 (fun a=>P7 a.1 a.2):=fz0 cn Tryz.func112 [] (fun _ a=>MAF a.1 a.2) fun _ _=>by kernel_rfl
abbrev NAF:=Int→Int→Option Int
noncomputable def OAK (a:Int) (b:Int):Option Int:=
 some (w64 (a - b))
noncomputable def OAF:NAF:=OAK
theorem LAT:Tells ctx PP 271 cv30 cv1 (fun a=>OAF a.1 a.2):=fz0 cn Tryz.func271 [] (fun _ a=>OAK a.1 a.2) fun _ _=>by kernel_rfl
abbrev PAK:=(List Int)→(List Int)→Nat→Option (List Int)
inductive Ny where
 | c0 (a b:(List Int)) (d:Nat) (e f:Int) (g:(List Int))
noncomputable def MAT:Ny→LI
 | .c0 a b d e f g=>(tdo Tryz.f111 488,[(0,[.one (.rsl 3 a)]),(1,[.one (.rsl 3 b)]),(2,[.one (.fn d)]),(7,[.one (.own 496)]),(19,[.one (.int .i64 e)]),(20,[.one (.int .i64 f)])],[(496,.sl 3 g)])
noncomputable def PAF (z0:Aj) (z1:LAF) (z2:NAF) (z3:Ue) (k:Ny→Option (List Int)) (a:(List Int)) (b:(List Int)) (d:Nat):Option (List Int):=
 (z0 a).bind fun r0=>
 bif (!r0) then
 some []
 else
 (z0 b).bind fun r1=>
 bif (!r1) then
  some []
 else
  k (.c0 a b d ((List.replicate (256:Int).toNat (0:Int)).length:Int) 0 (List.replicate (256:Int).toNat (0:Int)))
noncomputable def Q7 (z0:Aj) (z1:LAF) (z2:NAF) (z3:Ue) (k:Ny→Option (List Int)):Ny→Option (List Int)
 | .c0 d e b g a f=>
 bif a<g then
  bif 0≤a&&a<(d.length:Int) then
  bif 0≤a&&a<(e.length:Int) then
  bif (Nat.beq b 112) then
  (z1 (d.getD a.toNat 0) (e.getD a.toNat 0)).bind fun r0=>
  (z3 r0).bind fun r1=>
  bif 0≤a&&a<(f.length:Int) then
  k (.c0 d e b g (w64 (a+1)) (f.set a.toNat r1))
  else none
  else
  bif (Nat.beq b 202) then
   none
  else
   bif (Nat.beq b 203) then
   none
   else
   bif (Nat.beq b 271) then
   (z2 (d.getD a.toNat 0) (e.getD a.toNat 0)).bind fun r2=>
   (z3 r2).bind fun r3=>
   bif 0≤a&&a<(f.length:Int) then
   k (.c0 d e b g (w64 (a+1)) (f.set a.toNat r3))
   else none
   else none
  else none
  else none
 else
  some f
noncomputable def Bq:Nat→Ny→Option (List Int)
 | 0,_=>none
 | m+1,s=>Q7 Ag P7 OAF Ld (Bq m) s
noncomputable def U7:PAK:=PAF Ag P7 OAF Ld (Bq gas)
theorem NAT:Tells ctx PP 111 cv47 cv17 (fun a=>U7 a.1 a.2.1 a.2.2):=fz (cc1 J7 (cc2 KAT (cc2 LAT (cc1 Yw cn)))) Tryz.func111 [] MAT (fun z=>Q7 z.1 z.2.1 z.2.2.1 z.2.2.2.1) (fun z k a=>PAF z.1 z.2.1 z.2.2.1 z.2.2.2.1 k a.1 a.2.1 a.2.2) Bq gas (fun s s' h=>by cases s;cases s';cases h;rfl) (fun _ _ s=>by cases s <;> kernel_rfl) fun _ _ _=>by kernel_rfl
abbrev Oy:=(List Int)→(List Int)→Option (List Int)
noncomputable def QAF (z0:PAK) (a:(List Int)) (b:(List Int)):Option (List Int):=
 (z0 a b 112).bind fun r0=>
 some r0
noncomputable def Bg:Oy:=QAF U7
theorem QAK:Tells ctx PP 63 cv32 cv17 (fun a=>Bg a.1 a.2):=fz0 (cc3 NAT cn) Tryz.func63 [] (fun z a=>QAF z.1 a.1 a.2) fun _ _=>by kernel_rfl
abbrev RAF:=(List (List Int))→(List (List Int))→Option (List Int)
inductive Py where
 | c0 (a:(List (List Int))) (b:(List (List Int))) (d e:Int) (f:(List Int))
noncomputable def OAT:Py→LI
 | .c0 a b d e f=>(tdo Tryz.f64 232,[(0,[.one (.rsl 38 a)]),(1,[.one (.rsl 38 b)]),(5,[.one (.own 368)]),(9,[.one (.int .i64 d)]),(10,[.one (.int .i64 e)])],[(368,.sl 3 f)])
noncomputable def SAF (z0:JAF) (z1:Oy) (k:Py→Option (List Int)) (a:(List (List Int))) (b:(List (List Int))):Option (List Int):=
 k (.c0 a b (a.length:Int) 0 (List.replicate (256:Int).toNat (0:Int)))
noncomputable def Qy (z0:JAF) (z1:Oy) (k:Py→Option (List Int)):Py→Option (List Int)
 | .c0 b d e a f=>
 bif a<e then
  bif 0≤a&&a<(b.length:Int) then
  bif 0≤a&&a<(d.length:Int) then
  (z0 (b.getD a.toNat []) (d.getD a.toNat [])).bind fun r0=>
  (z1 f r0).bind fun r1=>
  k (.c0 b d e (w64 (a+1)) r1)
  else none
  else none
 else
  some f
noncomputable def Dq:Nat→Py→Option (List Int)
 | 0,_=>none
 | m+1,s=>Qy Ky Bg (Dq m) s
noncomputable def Fq:RAF:=SAF Ky Bg (Dq gas)
theorem QAT:Tells ctx PP 64 cv33 cv17 (fun a=>Fq a.1 a.2):=fz (cc2 JAT (cc2 QAK cn)) Tryz.func64 [] OAT (fun z=>Qy z.1 z.2.1) (fun z k a=>SAF z.1 z.2.1 k a.1 a.2) Dq gas (fun s s' h=>by cases s;cases s';cases h;rfl) (fun _ _ s=>by cases s <;> kernel_rfl) fun _ _ _=>by kernel_rfl
abbrev RAK:=(List Int)→Int→Option ByteArray
inductive Ry where
 | c0 (a:Int) (b:(List Int)) (d e:Int) (f:(List Int))
 | c1 (a g h:Int) (b:(List Int)) (d e:Int) (i j:Int) (f:(List Int))
noncomputable def TAT:Ry→LI
 | .c0 a b d e f=>(tdo Tryz.f110 232,[(1,[.one (.int .i64 a)]),(5,[.one (.own 368)]),(17,[.one (.rsl 3 b)]),(18,[.one (.int .i64 d)]),(19,[.one (.int .i64 e)])],[(368,.sl 5 f)])
 | .c1 a g h b d e i j f=>(tdo Tryz.f110 59800,[(1,[.one (.int .i64 a)]),(5,[.one (.own 368)]),(6,[.one (.int .i64 g)]),(7,[.one (.int .i64 h)]),(17,[.one (.rsl 3 b)]),(18,[.one (.int .i64 d)]),(19,[.one (.int .i64 e)]),(24,[.one (.int .i64 i)]),(25,[.one (.int .i64 j)])],[(368,.sl 5 f)])
noncomputable def TAF (k:Ry→Option ByteArray) (a:(List Int)) (b:Int):Option ByteArray:=
 bif ((((decide (0≤(w64 ((w64 ((w64 ((a.length:Int)*b))+7)).tdiv 8)))) && (decide ((w64 ((w64 ((w64 ((a.length:Int)*b))+7)).tdiv 8))≤(w64 ((w64 ((w64 ((a.length:Int)*b))+7)).tdiv 8))))) && (decide ((w64 ((w64 ((w64 ((a.length:Int)*b))+7)).tdiv 8))≤9223372036854775807))) && (decide (((w64 ((w64 ((w64 ((a.length:Int)*b))+7)).tdiv 8)).toNat*1)≤140737488355328))) then
 k (.c0 b a (a.length:Int) 0 (List.replicate (w64 ((w64 ((w64 ((a.length:Int)*b))+7)).tdiv 8)).toNat (0:Int)))
 else none
noncomputable def Gq (k:Ry→Option ByteArray):Ry→Option ByteArray
 | .c0 a g h d f=>
 bif d<h then
  bif 0≤d&&d<(g.length:Int) then
  k (.c1 a d (g.getD d.toNat 0) g h d a 0 f)
  else none
 else
  some (ofBytes f)
 | .c1 a e i g h d j b f=>
 bif b<j then
  bif 0≤(w64 ((w64 ((w64 (e*a))+b)).tdiv 8))&&(w64 ((w64 ((w64 (e*a))+b)).tdiv 8))<(f.length:Int) then
  bif 0≤b then
  bif 0≤((w64 ((w64 (e*a))+b)).tmod 8) then
  bif 0≤(w64 ((w64 ((w64 (e*a))+b)).tdiv 8))&&(w64 ((w64 ((w64 (e*a))+b)).tdiv 8))<(f.length:Int) then
  k (.c1 a e i g h d j (w64 (b+1)) (f.set (w64 ((w64 ((w64 (e*a))+b)).tdiv 8)).toNat (w8 (((BitVec.toNat ((BitVec.ofInt (IntKind.bits IntKind.u8) (f.getD (w64 ((w64 ((w64 (e*a))+b)).tdiv 8)).toNat 0)) ||| (BitVec.ofInt (IntKind.bits IntKind.u8) (w8 ((w8 (w64 (((BitVec.toNat ((BitVec.ofInt (IntKind.bits IntKind.i64) (Int.fdiv i (2 ^ (Min.min b.toNat (IntKind.bits IntKind.i64))))) &&& (BitVec.ofInt (IntKind.bits IntKind.i64) 1))):Nat):Int)))*(2 ^ (Min.min ((w64 ((w64 (e*a))+b)).tmod 8).toNat (IntKind.bits IntKind.u8)))))))):Nat):Int))))
  else none
  else none
  else none
  else none
 else
  k (.c0 a g h (w64 (d+1)) f)
noncomputable def Oh:Nat→Ry→Option ByteArray
 | 0,_=>none
 | m+1,s=>Gq (Oh m) s
noncomputable def V7:RAK:=TAF (Oh gas)
theorem UAT:Tells ctx PP 110 cv31 cv8 (fun a=>V7 a.1 a.2):=fz cn Tryz.func110 [] TAT (fun _=>Gq) (fun _ k a=>TAF k a.1 a.2) Oh gas (fun s s' h=>by cases s <;> cases s' <;> first | (cases h;done) | (cases h;rfl) | exact (rg_ne h (by kernel_rfl)).elim) (fun _ _ s=>by cases s <;> kernel_rfl) fun _ _ _=>by kernel_rfl
abbrev UAF:=(List Int)→Option ByteArray
noncomputable def VAF (z0:Aj) (z1:RAK) (a:(List Int)):Option ByteArray:=
 (z0 a).bind fun r0=>
 bif (!r0) then
 some ⟨#[]⟩
 else
 (z1 a 12).bind fun r1=>
 some r1
noncomputable def Gl:UAF:=VAF Ag V7
theorem VAT:Tells ctx PP 62 cv29 cv8 (fun a=>Gl a):=fz0 (cc1 J7 (cc2 UAT cn)) Tryz.func62 [] (fun z a=>VAF z.1 z.2.1 a) fun _ _=>by kernel_rfl
abbrev SAK:=ByteArray→Option (SPair×Bool)
inductive Uy where
 | c0 (a b:ByteArray) (d e:ByteArray) (f:Int) (g:SPair) (h:(List (List Int))) (i:(List (List Int)))
noncomputable def WAT:Uy→LI
 | .c0 b d e f g a h i=>(tdo Tryz.f25 4072,[(2,[.one (.ptr 128 0)]),(4,[.one (.str b)]),(5,[.one (.str d)]),(7,[.one (.own 496)]),(8,[.one (.own 560)]),(9,[.one (.str e)]),(10,[.one (.str f)]),(30,[.one (.int .i64 g)])],[(128,.var [.str a.fPublic,.str a.fSecret]),(496,.sl 38 h),(560,.sl 38 i)])
noncomputable def WAF (z0:J6) (z1:TAE) (z2:DAF) (z3:HAF) (z4:RAF) (z5:Oy) (z6:UAF) (k:Uy→Option (SPair×Bool)) (a:ByteArray):Option (SPair×Bool):=
 bif ((a.size:Int) != 32) then
 some (⟨⟨#[]⟩,⟨#[]⟩⟩,false)
 else
 (z0 a).bind fun r0=>
 bif (r0.size+(⟨#[114]⟩:ByteArray).size)≤9223372036854775807 then
 (z0 (r0++(⟨#[114]⟩:ByteArray))).bind fun r1=>
 bif (r0.size+(⟨#[115]⟩:ByteArray).size)≤9223372036854775807 then
 (z0 (r0++(⟨#[115]⟩:ByteArray))).bind fun r2=>
 (z1 r2 0).bind fun r3=>
 (z2 r3).bind fun r4=>
 (z1 r2 2).bind fun r5=>
 (z2 r5).bind fun r6=>
 k (.c0 r0 r1 ⟨#[]⟩ ⟨#[]⟩ 0 ⟨⟨#[]⟩,⟨#[]⟩⟩ r4 r6)
 else none
 else none
noncomputable def Vy (z0:J6) (z1:TAE) (z2:DAF) (z3:HAF) (z4:RAF) (z5:Oy) (z6:UAF) (k:Uy→Option (SPair×Bool)):Uy→Option (SPair×Bool)
 | .c0 g a b e d i f h=>
 bif d<2 then
  (z3 a d false).bind fun r0=>
  (z4 r0 f).bind fun r1=>
  bif 0≤d&&d<(h.length:Int) then
  (z5 r1 (h.getD d.toNat [])).bind fun r2=>
  (z6 r2).bind fun r3=>
  bif (b.size+r3.size)≤9223372036854775807 then
  bif 0≤d&&d<(f.length:Int) then
  (z6 (f.getD d.toNat [])).bind fun r4=>
  bif (e.size+r4.size)≤9223372036854775807 then
  k (.c0 g a (b++r3) (e++r4) (w64 (d+1)) i f h)
  else none
  else none
  else none
  else none
 else
  bif (b.size+a.size)≤9223372036854775807 then
  bif (e.size+(b++a).size)≤9223372036854775807 then
  (z0 (b++a)).bind fun r5=>
  bif ((e++(b++a)).size+r5.size)≤9223372036854775807 then
  bif (g.size+(⟨#[122]⟩:ByteArray).size)≤9223372036854775807 then
  (z0 (g++(⟨#[122]⟩:ByteArray))).bind fun r6=>
  bif (((e++(b++a))++r5).size+r6.size)≤9223372036854775807 then
  some (⟨(b++a),(((e++(b++a))++r5)++r6)⟩,true)
  else none
  else none
  else none
  else none
  else none
noncomputable def Hq:Nat→Uy→Option (SPair×Bool)
 | 0,_=>none
 | m+1,s=>Vy Yf Vk Zk Dl Fq Bg Gl (Hq m) s
noncomputable def X7:SAK:=WAF Yf Vk Zk Dl Fq Bg Gl (Hq gas)
theorem XAT:Tells ctx PP 25 cv8 cv34 (fun a=>X7 a):=fz (cc1 ZAJ (cc2 TAS (cc1 CAT (cc3 GAT (cc2 QAT (cc2 QAK (cc1 VAT cn))))))) Tryz.func25 [] WAT (fun z=>Vy z.1 z.2.1 z.2.2.1 z.2.2.2.1 z.2.2.2.2.1 z.2.2.2.2.2.1 z.2.2.2.2.2.2.1) (fun z k a=>WAF z.1 z.2.1 z.2.2.1 z.2.2.2.1 z.2.2.2.2.1 z.2.2.2.2.2.1 z.2.2.2.2.2.2.1 k a) Hq gas (fun s s' h=>by cases s;cases s';(repeat cases ‹SPair›);cases h;rfl) (fun _ _ s=>by cases s <;> kernel_rfl) fun _ _ _=>by kernel_rfl
abbrev Cj:=ByteArray→Option ByteArray
noncomputable def XAF (z0:J6) (a:ByteArray):Option ByteArray:=
 (z0 a).bind fun r0=>
 bif (0:Int)≤(4:Int)&&4≤(r0.size:Int) then
 some (r0.extract 0 (4:Int).toNat)
 else none
noncomputable def Md:Cj:=XAF Yf
theorem Y7:Tells ctx PP 204 cv8 cv8 (fun a=>Md a):=fz0 (cc1 ZAJ cn) Tryz.func204 [] (fun z a=>XAF z.1 a) fun _ _=>by kernel_rfl
abbrev YAF:=ByteArray→Int→Option (List ByteArray)
inductive Wy where
 | c0 (a:ByteArray) (b d:Int) (e:(List ByteArray))
noncomputable def YAT:Wy→LI
 | .c0 a b d e=>(tdo Tryz.f160 232,[(0,[.one (.str a)]),(1,[.one (.int .i64 b)]),(5,[.one (.own 368)]),(7,[.one (.int .i64 d)])],[(368,.sl 9 e)])
noncomputable def ZAF (z0:Zf) (z1:Cj) (k:Wy→Option (List ByteArray)) (a:ByteArray) (b:Int):Option (List ByteArray):=
 k (.c0 a b 0 [])
noncomputable def Z7 (z0:Zf) (z1:Cj) (k:Wy→Option (List ByteArray)):Wy→Option (List ByteArray)
 | .c0 a e b d=>
 bif b<10 then
  (z0 e).bind fun r0=>
  bif (a.size+r0.size)≤9223372036854775807 then
  (z0 b).bind fun r1=>
  bif ((a++r0).size+r1.size)≤9223372036854775807 then
  bif (((a++r0)++r1).size+(⟨#[111]⟩:ByteArray).size)≤9223372036854775807 then
  (z1 (((a++r0)++r1)++(⟨#[111]⟩:ByteArray))).bind fun r2=>
  bif ((d.length+1)*16)≤140737488355328 then
  k (.c0 a e (w64 (b+1)) (d++[r2]))
  else none
  else none
  else none
  else none
 else
  some d
noncomputable def Hl:Nat→Wy→Option (List ByteArray)
 | 0,_=>none
 | m+1,s=>Z7 Nc Md (Hl m) s
noncomputable def Xy:YAF:=ZAF Nc Md (Hl gas)
theorem ZAT:Tells ctx PP 160 cv10 cv35 (fun a=>Xy a.1 a.2):=fz (cc1 Xv (cc1 Y7 cn)) Tryz.func160 [] YAT (fun z=>Z7 z.1 z.2.1) (fun z k a=>ZAF z.1 z.2.1 k a.1 a.2) Hl gas (fun s s' h=>by cases s;cases s';cases h;rfl) (fun _ _ s=>by cases s <;> kernel_rfl) fun _ _ _=>by kernel_rfl
abbrev AAG:=Int→Option Int
noncomputable def BAG (a:Int):Option Int:=
 some 0
noncomputable def A8:AAG:=BAG
theorem AAU:Tells ctx PP 202 cv1 cv1 (fun a=>A8 a):=fz0 cn Tryz.func202 [] (fun _ a=>BAG a) fun _ _=>by kernel_rfl
abbrev CAG:=Int→Option Int
noncomputable def EAG (a:Int):Option Int:=
 some 15
noncomputable def D8:CAG:=EAG
theorem BAU:Tells ctx PP 203 cv1 cv1 (fun a=>D8 a):=fz0 cn Tryz.func203 [] (fun _ a=>EAG a) fun _ _=>by kernel_rfl
abbrev FAG:=ByteArray→Int→Int→Int→Int→Option ByteArray
inductive Yy where
 | c0 (a:ByteArray) (b d:Int) (e f g:Int)
noncomputable def CAU:Yy→LI
 | .c0 a b d e f g=>(tdo Tryz.f226 104,[(0,[.one (.str a)]),(1,[.one (.int .i64 b)]),(2,[.one (.int .i64 d)]),(3,[.one (.int .i64 e)]),(13,[.one (.int .i64 f)]),(14,[.one (.int .i64 g)])],[])
noncomputable def GAG (z0:Zf) (z1:Cj) (k:Yy→Option ByteArray) (b:ByteArray) (d:Int) (e:Int) (f:Int) (a:Int):Option ByteArray:=
 k (.c0 b d e f (ite (15<a) 15 a) 0)
noncomputable def E8 (z0:Zf) (z1:Cj) (k:Yy→Option ByteArray):Yy→Option ByteArray
 | .c0 a d e f g b=>
 bif b<g then
  (z0 d).bind fun r0=>
  (z0 e).bind fun r1=>
  bif (r0.size+r1.size)≤9223372036854775807 then
  (z0 (w64 (f+b))).bind fun r2=>
  bif ((r0++r1).size+r2.size)≤9223372036854775807 then
  bif (((r0++r1)++r2).size+a.size)≤9223372036854775807 then
  (z1 (((r0++r1)++r2)++a)).bind fun r3=>
  k (.c0 r3 d e f g (w64 (b+1)))
  else none
  else none
  else none
 else
  some a
noncomputable def Iq:Nat→Yy→Option ByteArray
 | 0,_=>none
 | m+1,s=>E8 Nc Md (Iq m) s
noncomputable def Jq:FAG:=GAG Nc Md (Iq gas)
theorem DAU:Tells ctx PP 226 cv36 cv8 (fun a=>Jq a.1 a.2.1 a.2.2.1 a.2.2.2.1 a.2.2.2.2):=fz (cc1 Xv (cc1 Y7 cn)) Tryz.func226 [] CAU (fun z=>E8 z.1 z.2.1) (fun z k a=>GAG z.1 z.2.1 k a.1 a.2.1 a.2.2.1 a.2.2.2.1 a.2.2.2.2) Iq gas (fun s s' h=>by cases s;cases s';cases h;rfl) (fun _ _ s=>by cases s <;> kernel_rfl) fun _ _ _=>by kernel_rfl
abbrev TAK:=(List ByteArray)→Int→Nat→Nat→Option ByteArray
inductive Zy where
 | c0 (a:Int) (b d:Nat) (e:ByteArray) (f:(List ByteArray)) (g h:Int)
noncomputable def EAU:Zy→LI
 | .c0 a b d e f g h=>(tdo Tryz.f201 488,[(1,[.one (.int .i64 a)]),(2,[.one (.fn b)]),(3,[.one (.fn d)]),(9,[.one (.str e)]),(15,[.one (.rsl 9 f)]),(16,[.one (.int .i64 g)]),(17,[.one (.int .i64 h)])],[])
noncomputable def HAG (z0:AAG) (z1:CAG) (z2:FAG) (z3:Cj) (k:Zy→Option ByteArray) (a:(List ByteArray)) (b:Int) (d:Nat) (e:Nat):Option ByteArray:=
 bif ((a.length:Int) != 10) then
 some ⟨#[]⟩
 else
 k (.c0 b d e ⟨#[]⟩ a (a.length:Int) 0)
noncomputable def F8 (z0:AAG) (z1:CAG) (z2:FAG) (z3:Cj) (k:Zy→Option ByteArray):Zy→Option ByteArray
 | .c0 f g b d e h a=>
 bif a<h then
  bif 0≤a&&a<(e.length:Int) then
  bif (Nat.beq g 112) then
  none
  else
  bif (Nat.beq g 202) then
   (z0 a).bind fun r0=>
   bif (Nat.beq b 112) then
   none
   else
   bif (Nat.beq b 202) then
    (z0 a).bind fun r1=>
    (z2 (e.getD a.toNat (⟨#[]⟩:ByteArray)) f a r0 r1).bind fun r2=>
    bif (d.size+r2.size)≤9223372036854775807 then
    k (.c0 f g b (d++r2) e h (w64 (a+1)))
    else none
   else
    bif (Nat.beq b 203) then
    (z1 a).bind fun r3=>
    (z2 (e.getD a.toNat (⟨#[]⟩:ByteArray)) f a r0 r3).bind fun r4=>
    bif (d.size+r4.size)≤9223372036854775807 then
    k (.c0 f g b (d++r4) e h (w64 (a+1)))
    else none
    else
    bif (Nat.beq b 271) then none else none
  else
   bif (Nat.beq g 203) then
   (z1 a).bind fun r5=>
   bif (Nat.beq b 112) then
    none
   else
    bif (Nat.beq b 202) then
    (z0 a).bind fun r6=>
    (z2 (e.getD a.toNat (⟨#[]⟩:ByteArray)) f a r5 r6).bind fun r7=>
    bif (d.size+r7.size)≤9223372036854775807 then
    k (.c0 f g b (d++r7) e h (w64 (a+1)))
    else none
    else
    bif (Nat.beq b 203) then
     (z1 a).bind fun r8=>
     (z2 (e.getD a.toNat (⟨#[]⟩:ByteArray)) f a r5 r8).bind fun r9=>
     bif (d.size+r9.size)≤9223372036854775807 then
     k (.c0 f g b (d++r9) e h (w64 (a+1)))
     else none
    else
     bif (Nat.beq b 271) then none else none
   else
   bif (Nat.beq g 271) then none else none
  else none
 else
  (z3 d).bind fun r10=>
  some r10
noncomputable def Ej:Nat→Zy→Option ByteArray
 | 0,_=>none
 | m+1,s=>F8 A8 D8 Jq Md (Ej m) s
noncomputable def IAG:TAK:=HAG A8 D8 Jq Md (Ej gas)
theorem FAU:Tells ctx PP 201 cv48 cv8 (fun a=>IAG a.1 a.2.1 a.2.2.1 a.2.2.2):=fz (cc1 AAU (cc1 BAU (cc5 DAU (cc1 Y7 cn)))) Tryz.func201 [] EAU (fun z=>F8 z.1 z.2.1 z.2.2.1 z.2.2.2.1) (fun z k a=>HAG z.1 z.2.1 z.2.2.1 z.2.2.2.1 k a.1 a.2.1 a.2.2.1 a.2.2.2) Ej gas (fun s s' h=>by cases s;cases s';cases h;rfl) (fun _ _ s=>by cases s <;> kernel_rfl) fun _ _ _=>by kernel_rfl
abbrev JAG:=(List ByteArray)→Int→Option ByteArray
noncomputable def KAG (z0:TAK) (a:(List ByteArray)) (b:Int):Option ByteArray:=
 (z0 a b 202 203).bind fun r0=>
 some r0
noncomputable def Az:JAG:=KAG IAG
theorem GAU:Tells ctx PP 159 cv37 cv8 (fun a=>Az a.1 a.2):=fz0 (cc4 FAU cn) Tryz.func159 [] (fun z a=>KAG z.1 a.1 a.2) fun _ _=>by kernel_rfl
abbrev UAK:=ByteArray→Option (List ByteArray)
inductive Bz where
 | c0 (a:ByteArray) (b:Int) (d:(List ByteArray))
noncomputable def HAU:Bz→LI
 | .c0 a b d=>(tdo Tryz.f116 232,[(0,[.one (.str a)]),(3,[.one (.own 240)]),(5,[.one (.int .i64 b)])],[(240,.sl 9 d)])
noncomputable def LAG (z0:YAF) (z1:JAG) (k:Bz→Option (List ByteArray)) (a:ByteArray):Option (List ByteArray):=
 k (.c0 a 0 [])
noncomputable def G8 (z0:YAF) (z1:JAG) (k:Bz→Option (List ByteArray)):Bz→Option (List ByteArray)
 | .c0 d a b=>
 bif a<4 then
  (z0 d a).bind fun r0=>
  (z1 r0 a).bind fun r1=>
  bif ((b.length+1)*16)≤140737488355328 then
  k (.c0 d (w64 (a+1)) (b++[r1]))
  else none
 else
  some b
noncomputable def Kq:Nat→Bz→Option (List ByteArray)
 | 0,_=>none
 | m+1,s=>G8 Xy Az (Kq m) s
noncomputable def H8:UAK:=LAG Xy Az (Kq gas)
theorem IAU:Tells ctx PP 116 cv8 cv35 (fun a=>H8 a):=fz (cc2 ZAT (cc2 GAU cn)) Tryz.func116 [] HAU (fun z=>G8 z.1 z.2.1) (fun z k a=>LAG z.1 z.2.1 k a) Kq gas (fun s s' h=>by cases s;cases s';cases h;rfl) (fun _ _ s=>by cases s <;> kernel_rfl) fun _ _ _=>by kernel_rfl
abbrev MAG:=Int→Int→ByteArray→ByteArray→Option ByteArray
noncomputable def NAG (z0:Zf) (z1:Cj) (d:Int) (e:Int) (a:ByteArray) (b:ByteArray):Option ByteArray:=
 (z0 d).bind fun r0=>
 (z0 e).bind fun r1=>
 bif (r0.size+r1.size)≤9223372036854775807 then
 bif ((r0++r1).size+a.size)≤9223372036854775807 then
 bif (((r0++r1)++a).size+b.size)≤9223372036854775807 then
 bif ((((r0++r1)++a)++b).size+(⟨#[110]⟩:ByteArray).size)≤9223372036854775807 then
 (z1 ((((r0++r1)++a)++b)++(⟨#[110]⟩:ByteArray))).bind fun r2=>
 some r2
 else none
 else none
 else none
 else none
noncomputable def Fj:MAG:=NAG Nc Md
theorem JAU:Tells ctx PP 200 cv38 cv8 (fun a=>Fj a.1 a.2.1 a.2.2.1 a.2.2.2):=fz0 (cc1 Xv (cc1 Y7 cn)) Tryz.func200 [] (fun z a=>NAG z.1 z.2.1 a.1 a.2.1 a.2.2.1 a.2.2.2) fun _ _=>by kernel_rfl
abbrev OAG:=Int→(List ByteArray)→Option (List ByteArray)
inductive Dz where
 | c0 (a:Int) (b:(List ByteArray)) (d:Int) (e:(List ByteArray))
noncomputable def KAU:Dz→LI
 | .c0 a b d e=>(tdo Tryz.f158 464,[(0,[.one (.int .i64 a)]),(1,[.one (.rsl 9 b)]),(5,[.one (.own 368)]),(6,[.one (.int .i64 d)])],[(368,.sl 9 e)])
noncomputable def I8 (z0:MAG) (k:Dz→Option (List ByteArray)) (a:Int) (b:(List ByteArray)):Option (List ByteArray):=
 k (.c0 a b 0 [])
noncomputable def Il (z0:MAG) (k:Dz→Option (List ByteArray)):Dz→Option (List ByteArray)
 | .c0 e b a d=>
 bif (w64 (a+1))<(b.length:Int) then
  bif 0≤a&&a<(b.length:Int) then
  bif 0≤(w64 (a+1))&&(w64 (a+1))<(b.length:Int) then
  (z0 e (w64 (a.tdiv 2)) (b.getD a.toNat (⟨#[]⟩:ByteArray)) (b.getD (w64 (a+1)).toNat (⟨#[]⟩:ByteArray))).bind fun r0=>
  bif ((d.length+1)*16)≤140737488355328 then
  k (.c0 e b (w64 (a+2)) (d++[r0]))
  else none
  else none
  else none
 else
  some d
noncomputable def Gj:Nat→Dz→Option (List ByteArray)
 | 0,_=>none
 | m+1,s=>Il Fj (Gj m) s
noncomputable def Jl:OAG:=I8 Fj (Gj gas)
theorem LAU:Tells ctx PP 158 cv39 cv35 (fun a=>Jl a.1 a.2):=fz (cc4 JAU cn) Tryz.func158 [] KAU (fun z=>Il z.1) (fun z k a=>I8 z.1 k a.1 a.2) Gj gas (fun s s' h=>by cases s;cases s';cases h;rfl) (fun _ _ s=>by cases s <;> kernel_rfl) fun _ _ _=>by kernel_rfl
abbrev VAK:=(List ByteArray)→Option ByteArray
inductive Ez where
 | c0 (a:(List ByteArray)) (b:Int)
 | c1 (b:Int) (a:(List ByteArray))
noncomputable def MAU:Ez→LI
 | .c0 a b=>(tdo Tryz.f115 464,[(0,[.one (.rsl 9 a)]),(3,[.one (.int .i64 b)])],[])
 | .c1 b a=>(tdo Tryz.f115 464,[(0,[.one (.own 48)]),(3,[.one (.int .i64 b)])],[(48,.sl 9 a)])
noncomputable def PAG (z0:OAG) (k:Ez→Option ByteArray) (a:(List ByteArray)):Option ByteArray:=
 bif ((a.length:Int) != 4) then
 some ⟨#[]⟩
 else
 k (.c0 a 1)
noncomputable def Fz (z0:OAG) (k:Ez→Option ByteArray):Ez→Option ByteArray
 | .c0 a b=>
 bif (a.length:Int) > 1 then
  (z0 b a).bind fun r0=>
  k (.c1 (w64 (b+1)) r0)
 else
  bif (0:Int)≤(0:Int)&&0<(a.length:Int) then
  some (a.getD (0:Int).toNat (⟨#[]⟩:ByteArray))
  else none
 | .c1 b a=>
 bif (a.length:Int) > 1 then
  (z0 b a).bind fun r0=>
  k (.c1 (w64 (b+1)) r0)
 else
  bif (0:Int)≤(0:Int)&&0<(a.length:Int) then
  some (a.getD (0:Int).toNat (⟨#[]⟩:ByteArray))
  else none
noncomputable def Nq:Nat→Ez→Option ByteArray
 | 0,_=>none
 | m+1,s=>Fz Jl (Nq m) s
noncomputable def J8:VAK:=PAG Jl (Nq gas)
theorem NAU:Tells ctx PP 115 cv40 cv8 (fun a=>J8 a):=fz (cc2 LAU cn) Tryz.func115 [] MAU (fun z=>Fz z.1) (fun z k a=>PAG z.1 k a) Nq gas (fun s s' h=>by cases s <;> cases s' <;> first | (cases h;done) | (cases h;rfl) | exact (rg_ne h (by kernel_rfl)).elim) (fun _ _ s=>by cases s <;> kernel_rfl) fun _ _ _=>by kernel_rfl
abbrev WAK:=ByteArray→Option ByteArray
noncomputable def QAG (z0:UAK) (z1:VAK) (a:ByteArray):Option ByteArray:=
 (z0 a).bind fun r0=>
 (z1 r0).bind fun r1=>
 some r1
noncomputable def L8:WAK:=QAG H8 J8
theorem OAU:Tells ctx PP 66 cv8 cv8 (fun a=>L8 a):=fz0 (cc1 IAU (cc1 NAU cn)) Tryz.func66 [] (fun z a=>QAG z.1 z.2.1 a) fun _ _=>by kernel_rfl
abbrev XAK:=ByteArray→Option ByteArray
noncomputable def RAG (z0:WAK) (a:ByteArray):Option ByteArray:=
 bif (a.size+(⟨#[116]⟩:ByteArray).size)≤9223372036854775807 then
 (z0 (a++(⟨#[116]⟩:ByteArray))).bind fun r0=>
 some r0
 else none
noncomputable def N8:XAK:=RAG L8
theorem PAU:Tells ctx PP 26 cv8 cv8 (fun a=>N8 a):=fz0 (cc1 OAU cn) Tryz.func26 [] (fun z a=>RAG z.1 a) fun _ _=>by kernel_rfl
abbrev YAK:=SThing→Option ByteArray
noncomputable def SAG (z0:OAJ) (z1:SAK) (z2:XAK) (a:SThing):Option ByteArray:=
 (z0 a).bind fun r0=>
 bif (!r0) then
 some ⟨#[]⟩
 else
 bif (a.fKind == 1) then
  (z1 a.fValue).bind fun r1=>
  some r1.1.fPublic
 else
  bif (a.fKind == 2) then
  (z2 a.fValue).bind fun r2=>
  some r2
  else
  some ⟨#[]⟩
noncomputable def O8:YAK:=SAG Q5 X7 N8
theorem QAU:Tells ctx PP 9 cv2 cv8 (fun a=>O8 a):=fz0 (cc1 GAR (cc1 XAT (cc1 PAU cn))) Tryz.func9 [] (fun z a=>SAG z.1 z.2.1 z.2.2.1 a) fun _ _=>by kernel_rfl
abbrev RAU:=SThing→Option Bool
noncomputable def UAG (z0:DAI) (z1:FAI) (z2:MAJ) (z3:YAK) (a:SThing):Option Bool:=
 (z0 a 1048576).bind fun r0=>
 bif r0<0 then
 some true
 else
 (z1 a).bind fun r1=>
 (z2 r1).bind fun r2=>
 (z1 a).bind fun r3=>
 (z3 r3).bind fun r4=>
 bif (!((ByteArray.toList r4) == (ByteArray.toList r2))) then
  some false
 else
  some true
noncomputable def laws_FnExactPublicPart:RAU:=UAG BAA Sz P5 O8
theorem ok_laws_FnExactPublicPart:Tells ctx PP 3 cv2 cv4 (fun a=>laws_FnExactPublicPart a):=fz0 (cc2 KAO (cc1 LAO (cc1 EAR (cc1 QAU cn)))) Tryz.func3 [] (fun z a=>UAG z.1 z.2.1 z.2.2.1 z.2.2.2.1 a) fun _ _=>by kernel_rfl
end Go.Proofs.YtnmmhkanpfmaaaaGreatDoor.G
