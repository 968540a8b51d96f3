/- Functions of the program, told by plain functions: part 1 of 2. -/
import Derived.Test.YtnmmhkanpfmaaaaGreatDoorCtx
namespace Go.Proofs.YtnmmhkanpfmaaaaGreatDoor.G
open Go Go.Ev
noncomputable section
set_option linter.unusedVariables false
set_option maxRecDepth 100000
set_option linter.unusedSectionVars false
variable [PC]
abbrev YAN:=Unit→Option Bool
def FAO (a:Unit):Option Bool:=some (decide ((codeL.length:Int) > 1048576))
def HAE:YAN:=FAO
theorem PAW:Tells ctx PP 10 cv49 cv4 (fun a=>HAE a):=fz0 cn Tryz.func10 [] (fun _ a=>FAO a) fun _ _=>by kernel_rfl
abbrev JAE:=Unit→Option SL01Cur
inductive Wu where
 | c0 (a b:Int)
def VAW:Wu→LI
 | .c0 a b=>(tdo Tryz.f28 464,[(0,[.one (.csl)]),vi 3 a,vi 4 b],[])
def KAE (k:Wu→Option SL01Cur) (a:Unit):Option SL01Cur:=k (.c0 (w64 (27401+(codeL.length:Int))) 0)
def Y7 (k:Wu→Option SL01Cur):Wu→Option SL01Cur
 | .c0 b a=>cond (a<(codeL.length:Int)) (cond (a<4000) (cond (0≤a&&a<(codeL.length:Int)) (cond (Nat.blt a.toNat codeL.length) (k (.c0 (w64 (((BitVec.toNat ((BitVec.ofInt (IntKind.bits .i64) (w64 ((w64 ((w64 (b*131))+(w64 (codeL.getD a.toNat 0))))+7))) &&& (BitVec.ofInt (IntKind.bits .i64) 1073741823))):Nat):Int)) (w64 (a+1)))) none) none) (some ⟨(),0,b⟩)) (some ⟨(),0,b⟩)
def Ko:Nat→Wu→Option SL01Cur
 | 0,_=>none
 | m+1,s=>Y7 (Ko m) s
def Xu:JAE:=KAE (Ko gas)
theorem GAO:Tells ctx PP 28 cv49 cv50 (fun a=>Xu a):=fz cn Tryz.func28 [] VAW (fun _=>Y7) (fun _ k a=>KAE k a) Ko gas (fun s s' h=>by cases s;cases s';cases h;rfl) (fun _ _ s=>by cases s <;> kernel_rfl) fun _ _ _=>by kernel_rfl
abbrev Z7:=SL01Cur→Option (Int×SL01Cur)
def LAE (a:SL01Cur):Option (Int×SL01Cur):=cond (a.fI<(codeL.length:Int)) (cond (0≤a.fI&&a.fI<(codeL.length:Int)) (cond (Nat.blt a.fI.toNat codeL.length) (some (w64 (((BitVec.toNat ((BitVec.ofInt (IntKind.bits .i64) (w64 ((w64 (((BitVec.toNat ((BitVec.ofInt (IntKind.bits .i64) (w64 (((BitVec.toNat ((BitVec.ofInt (IntKind.bits .i64) (Int.fdiv (w64 ((w64 (a.fH*6364136223846793005))+1442695040888963407)) (2 ^ (Min.min (33:Int).toNat (IntKind.bits .i64))))) ^^^ (BitVec.ofInt (IntKind.bits .i64) (Int.fdiv (w64 ((w64 (a.fH*6364136223846793005))+1442695040888963407)) (2 ^ (Min.min (45:Int).toNat (IntKind.bits .i64))))))):Nat):Int))) &&& (BitVec.ofInt (IntKind.bits .i64) 255))):Nat):Int))+(w64 (codeL.getD a.fI.toNat 0))))) &&& (BitVec.ofInt (IntKind.bits .i64) 255))):Nat):Int),⟨(),w64 (a.fI+1),w64 ((w64 (a.fH*6364136223846793005))+1442695040888963407)⟩)) none) none) (some (w64 (((BitVec.toNat ((BitVec.ofInt (IntKind.bits .i64) (w64 (((BitVec.toNat ((BitVec.ofInt (IntKind.bits .i64) (Int.fdiv (w64 ((w64 (a.fH*6364136223846793005))+1442695040888963407)) (2 ^ (Min.min (33:Int).toNat (IntKind.bits .i64))))) ^^^ (BitVec.ofInt (IntKind.bits .i64) (Int.fdiv (w64 ((w64 (a.fH*6364136223846793005))+1442695040888963407)) (2 ^ (Min.min (45:Int).toNat (IntKind.bits .i64))))))):Nat):Int))) &&& (BitVec.ofInt (IntKind.bits .i64) 255))):Nat):Int),⟨(),a.fI,w64 ((w64 (a.fH*6364136223846793005))+1442695040888963407)⟩))
def Oo:Z7:=LAE
theorem HAO:Tells ctx PP 42 cv51 cv52 (fun a=>Oo a):=fz0 cn Tryz.func42 [0] (fun _ a=>LAE a) fun _ _=>by kernel_rfl
abbrev Dl:=SL01Cur→Int→Option (Int×SL01Cur)
def MAE (z0:Z7) (a:SL01Cur) (b:Int):Option (Int×SL01Cur):=cond (b≤0) (some (0,⟨(),a.fI,a.fH⟩)) (cond (b≤256) ((z0 ⟨(),a.fI,a.fH⟩).bind fun r0=>cond (!(b == 0)) (some (r0.1.tmod b,⟨(),r0.2.fI,r0.2.fH⟩)) none) ((z0 ⟨(),a.fI,a.fH⟩).bind fun r1=>(z0 ⟨(),r1.2.fI,r1.2.fH⟩).bind fun r2=>(z0 ⟨(),r2.2.fI,r2.2.fH⟩).bind fun r3=>(z0 ⟨(),r3.2.fI,r3.2.fH⟩).bind fun r4=>cond (!(b == 0)) (some ((w64 ((w64 ((w64 ((w64 (r1.1*16777216))+(w64 (r2.1*65536))))+(w64 (r3.1*256))))+r4.1)).tmod b,⟨(),r4.2.fI,r4.2.fH⟩)) none))
def Rh:Dl:=MAE Oo
theorem Po:Tells ctx PP 43 cv53 cv52 (fun a=>Rh a.1 a.2):=fz0 (cc1 HAO cn) Tryz.func43 [0] (fun z a=>MAE z.1 a.1 a.2) fun _ _=>by kernel_rfl
abbrev IAO:=SL01Cur→Int→Option (Bool×SL01Cur)
def NAE (z0:Dl) (a:SL01Cur) (b:Int):Option (Bool×SL01Cur):=(z0 ⟨(),a.fI,a.fH⟩ b).bind fun r0=>some (r0.1 == 0,⟨(),r0.2.fI,r0.2.fH⟩)
def A8:IAO:=NAE Rh
theorem WAW:Tells ctx PP 117 cv53 cv54 (fun a=>A8 a.1 a.2):=fz0 (cc2 Po cn) Tryz.func117 [0] (fun z a=>NAE z.1 a.1 a.2) fun _ _=>by kernel_rfl
abbrev OAE:=SL01Cur→Int→Option (ByteArray×SL01Cur)
inductive Yu where
 | c0 (a b:Int) (d e:Int) (f:(List Int))
def XAW:Yu→LI
 | .c0 a b d e f=>(tdo Tryz.f76 976,[vp 0 0,vi 1 a,vo 5 368,vi 6 b],[(0,.var [.csl,li d,li e]),(368,.sl 5 f)])
def PAE (z0:Z7) (k:Yu→Option (ByteArray×SL01Cur)) (a:SL01Cur) (b:Int):Option (ByteArray×SL01Cur):=cond (b > 5000) (k (.c0 5000 0 a.fI a.fH [])) (k (.c0 b 0 a.fI a.fH []))
def D8 (z0:Z7) (k:Yu→Option (ByteArray×SL01Cur)):Yu→Option (ByteArray×SL01Cur)
 | .c0 b d e f a=>cond (d<b) ((z0 ⟨(),e,f⟩).bind fun r0=>cond (((a.length+1)*1)≤140737488355328) (k (.c0 b (w64 (d+1)) r0.2.fI r0.2.fH (a++[w8 r0.1]))) none) (some (ofBytes a,⟨(),e,f⟩))
def Gl:Nat→Yu→Option (ByteArray×SL01Cur)
 | 0,_=>none
 | m+1,s=>D8 Oo (Gl m) s
def Zu:OAE:=PAE Oo (Gl gas)
theorem JAO:Tells ctx PP 76 cv53 cv55 (fun a=>Zu a.1 a.2):=fz (cc1 HAO cn) Tryz.func76 [0] XAW (fun z=>D8 z.1) (fun z k a=>PAE z.1 k a.1 a.2) Gl gas (fun s s' h=>by cases s;cases s';cases h;rfl) (fun _ _ s=>by cases s <;> kernel_rfl) fun _ _ _=>by kernel_rfl
abbrev KAO:=SL01Cur→(List ByteArray)→Option (ByteArray×SL01Cur)
def QAE (z0:Dl) (b:SL01Cur) (a:(List ByteArray)):Option (ByteArray×SL01Cur):=(z0 ⟨(),b.fI,b.fH⟩ (a.length:Int)).bind fun r0=>cond (0≤r0.1&&r0.1<(a.length:Int)) (some (a.getD r0.1.toNat (⟨#[]⟩:ByteArray),⟨(),r0.2.fI,r0.2.fH⟩)) none
def E8:KAO:=QAE Rh
theorem YAW:Tells ctx PP 118 cv56 cv55 (fun a=>E8 a.1 a.2):=fz0 (cc2 Po cn) Tryz.func118 [0] (fun z a=>QAE z.1 a.1 a.2) fun _ _=>by kernel_rfl
abbrev LAO:=Option (List Int)
def MAO  : Option (List Int):=some [1779033703,3144134277,1013904242,2773480762,1359893119,2600822924,528734635,1541459225]
def RAE:LAO:=MAO
theorem ZAW:Tells ctx PP 84 cv5 cv6 (fun _=>RAE):=fz0 cn Tryz.func84 [] (fun _ _=>MAO) fun _ _=>by kernel_rfl
abbrev Qo:=(List Int)→Option ByteArray
inductive Bv where
 | c0 (a:(List Int)) (b:Int) (d:(List Int))
def AAX:Bv→LI
 | .c0 a b d=>(tdo Tryz.f83 464,[vr 0 133 a,vo 3 240,vi 4 b],[(240,.sl 5 d)])
def NAO (k:Bv→Option ByteArray) (a:(List Int)):Option ByteArray:=k (.c0 a 0 [])
def F8 (k:Bv→Option ByteArray):Bv→Option ByteArray
 | .c0 b a d=>cond (a<(b.length:Int)) (cond (0≤a&&a<(b.length:Int)) (cond (((d.length+4)*1)≤140737488355328) (k (.c0 b (w64 (a+1)) (d++[w8 (w32 ((b.getD a.toNat 0).tdiv 16777216)),w8 ((w32 ((b.getD a.toNat 0).tdiv 65536)).tmod 256),w8 ((w32 ((b.getD a.toNat 0).tdiv 256)).tmod 256),w8 ((b.getD a.toNat 0).tmod 256)]))) none) none) (some (ofBytes d))
def Ro:Nat→Bv→Option ByteArray
 | 0,_=>none
 | m+1,s=>F8 (Ro m) s
def Hl:Qo:=NAO (Ro gas)
theorem SAE:Tells ctx PP 83 cv7 cv8 (fun a=>Hl a):=fz cn Tryz.func83 [] AAX (fun _=>F8) (fun _ k a=>NAO k a) Ro gas (fun s s' h=>by cases s;cases s';cases h;rfl) (fun _ _ s=>by cases s <;> kernel_rfl) fun _ _ _=>by kernel_rfl
abbrev OAO:=Option SHasher
def TAE (z0:LAO) (z1:Qo)  : Option SHasher:=z0.bind fun r0=>(z1 r0).bind fun r1=>some ⟨r1,⟨#[]⟩,0⟩
def G8:OAO:=TAE RAE Hl
theorem BAX:Tells ctx PP 46 cv5 cv9 (fun _=>G8):=fz0 (cc0 ZAW (cc1 SAE cn)) Tryz.func46 [] (fun z _=>TAE z.1 z.2.1) fun _ _=>by kernel_rfl
abbrev Td:=Int→Int→Int→Option Bool
def PAO (a:Int) (b:Int) (d:Int):Option Bool:=cond (a≥b) (some (decide (a≤d))) (some false)
def Xc:Td:=PAO
theorem Wi:Tells ctx PP 35 cv3 cv4 (fun a=>Xc a.1 a.2.1 a.2.2):=fz0 cn Tryz.func35 [] (fun _ a=>PAO a.1 a.2.1 a.2.2) fun _ _=>by kernel_rfl
abbrev Dv:=SHasher→Option Bool
def UAE (z0:Td) (a:SHasher):Option Bool:=cond ((a.fState.size:Int) == 32) (cond ((a.fRest.size:Int)<64) ((z0 a.fCount 0 1000000000).bind fun r0=>cond r0 (some ((a.fCount.tmod 64) == (a.fRest.size:Int))) (some false)) (some false)) (some false)
def Uh:Dv:=UAE Xc
theorem QAO:Tells ctx PP 79 cv9 cv4 (fun a=>Uh a):=fz0 (cc3 Wi cn) Tryz.func79 [] (fun z a=>UAE z.1 a) fun _ _=>by kernel_rfl
abbrev VAE:=ByteArray→Int→Option Int
def WAE (b:ByteArray) (a:Int):Option Int:=cond (0≤a&&a<(b.size:Int)) (cond (0≤(w64 (a+1))&&(w64 (a+1))<(b.size:Int)) (cond (0≤(w64 (a+2))&&(w64 (a+2))<(b.size:Int)) (cond (0≤(w64 (a+3))&&(w64 (a+3))<(b.size:Int)) (some (w32 ((w32 ((w32 ((w32 ((w32 (bt b a))*16777216))+(w32 ((w32 (bt b (w64 (a+1))))*65536))))+(w32 ((w32 (bt b (w64 (a+2))))*256))))+(w32 (bt b (w64 (a+3))))))) none) none) none) none
def Fv:VAE:=WAE
theorem CAX:Tells ctx PP 119 cv10 cv11 (fun a=>Fv a.1 a.2):=fz0 cn Tryz.func119 [] (fun _ a=>WAE a.1 a.2) fun _ _=>by kernel_rfl
abbrev Il:=ByteArray→Option (List Int)
inductive Gv where
 | c0 (a:ByteArray) (b:Int) (d:(List Int))
def DAX:Gv→LI
 | .c0 a b d=>(tdo Tryz.f80 464,[vs 0 a,vo 3 240,vi 4 b],[(240,.sl 133 d)])
def RAO (z0:VAE) (k:Gv→Option (List Int)) (a:ByteArray):Option (List Int):=k (.c0 a 0 [])
def H8 (z0:VAE) (k:Gv→Option (List Int)):Gv→Option (List Int)
 | .c0 a b d=>cond ((w64 (b+4))≤(a.size:Int)) ((z0 a b).bind fun r0=>cond (((d.length+1)*4)≤140737488355328) (k (.c0 a (w64 (b+4)) (d++[r0]))) none) (some d)
def Uo:Nat→Gv→Option (List Int)
 | 0,_=>none
 | m+1,s=>H8 Fv (Uo m) s
def Vh:Il:=RAO Fv (Uo gas)
theorem XAE:Tells ctx PP 80 cv8 cv6 (fun a=>Vh a):=fz (cc2 CAX cn) Tryz.func80 [] DAX (fun z=>H8 z.1) (fun z k a=>RAO z.1 k a) Uo gas (fun s s' h=>by cases s;cases s';cases h;rfl) (fun _ _ s=>by cases s <;> kernel_rfl) fun _ _ _=>by kernel_rfl
abbrev Jv:=Option (List Int)
def SAO  : Option (List Int):=some [1116352408,1899447441,3049323471,3921009573,961987163,1508970993,2453635748,2870763221,3624381080,310598401,607225278,1426881987,1925078388,2162078206,2614888103,3248222580,3835390401,4022224774,264347078,604807628,770255983,1249150122,1555081692,1996064986,2554220882,2821834349,2952996808,3210313671,3336571891,3584528711,113926993,338241895,666307205,773529912,1294757372,1396182291,1695183700,1986661051,2177026350,2456956037,2730485921,2820302411,3259730800,3345764771,3516065817,3600352804,4094571909,275423344,430227734,506948616,659060556,883997877,958139571,1322822218,1537002063,1747873779,1955562222,2024104815,2227730452,2361852424,2428436474,2756734187,3204031479,3329325298]
def Vo:Jv:=SAO
theorem TAO:Tells ctx PP 81 cv5 cv6 (fun _=>Vo):=fz0 cn Tryz.func81 [] (fun _ _=>SAO) fun _ _=>by kernel_rfl
abbrev UAO:=Int→Int→Int→Option Int
def YAE (b:Int) (a:Int) (d:Int):Option Int:=cond (!(a == 0)) (cond (!(a == 0)) (some (w32 ((w32 (b.tdiv a))+(w32 ((b.tmod a)*d))))) none) none
def I8:UAO:=YAE
theorem EAX:Tells ctx PP 161 cv12 cv11 (fun a=>I8 a.1 a.2.1 a.2.2):=fz0 cn Tryz.func161 [] (fun _ a=>YAE a.1 a.2.1 a.2.2) fun _ _=>by kernel_rfl
abbrev ZAE:=Int→Int→Int→Int→Bool→Option Int
def Xo (z0:UAO) (b:Int) (d:Int) (e:Int) (a:Int) (f:Bool):Option Int:=cond (!(d == 0)) ((z0 b d (w32 ((w32 ((2147483648:Int).tdiv d))*2))).bind fun r0=>cond (!(e == 0)) ((z0 b e (w32 ((w32 ((2147483648:Int).tdiv e))*2))).bind fun r1=>cond (!(a == 0)) (cond (!f) (cond (!(a == 0)) ((z0 b a (w32 ((w32 ((2147483648:Int).tdiv a))*2))).bind fun r2=>some (w32 (((BitVec.toNat ((BitVec.ofInt (IntKind.bits .u32) (w32 (((BitVec.toNat ((BitVec.ofInt (IntKind.bits .u32) r0) ^^^ (BitVec.ofInt (IntKind.bits .u32) r1))):Nat):Int))) ^^^ (BitVec.ofInt (IntKind.bits .u32) r2))):Nat):Int))) none) (some (w32 (((BitVec.toNat ((BitVec.ofInt (IntKind.bits .u32) (w32 (((BitVec.toNat ((BitVec.ofInt (IntKind.bits .u32) r0) ^^^ (BitVec.ofInt (IntKind.bits .u32) r1))):Nat):Int))) ^^^ (BitVec.ofInt (IntKind.bits .u32) (w32 (b.tdiv a))))):Nat):Int)))) none) none) none
def Ef:ZAE:=Xo I8
theorem FAX:Tells ctx PP 120 cv13 cv11 (fun a=>Ef a.1 a.2.1 a.2.2.1 a.2.2.2.1 a.2.2.2.2):=fz0 (cc3 EAX cn) Tryz.func120 [] (fun z a=>Xo z.1 a.1 a.2.1 a.2.2.1 a.2.2.2.1 a.2.2.2.2) fun _ _=>by kernel_rfl
abbrev Kv:=(List Int)→(List Int)→ByteArray→Option (List Int)
inductive Nv where
 | c0 (a b:(List Int)) (g:Int) (d:(List Int))
 | c1 (a b:(List Int)) (f:Int) (d e:(List Int))
 | c2 (a b:(List Int)) (f h:Int) (i j:Int) (d e:(List Int))
 | c3 (a:(List Int)) (n:Int) (e o:(List Int))
def GAX:Nv→LI
 | .c0 a b g d=>(tdo Tryz.f82 464,[vr 0 133 a,vr 1 133 b,vo 7 496,vi 8 g],[(496,.sl 133 d)])
 | .c1 a b f d e=>(tdo Tryz.f82 2000,[vr 0 133 a,vr 1 133 b,vo 7 496,vo 9 624,vi 10 f],[(496,.sl 133 d),(624,.sl 133 e)])
 | .c2 a b f h i j d e=>(tdo Tryz.f82 8202192,[vr 0 133 a,vr 1 133 b,vo 7 496,vo 9 624,vi 10 f,(13,[.one (.int .u32 h)]),(15,[.one (.int .u32 i)]),vi 16 j],[(496,.sl 133 d),(624,.sl 133 e)])
 | .c3 a n e o=>(tdo Tryz.f82 8144,[vr 0 133 a,vo 9 624,vo 17 1136,vi 18 n],[(624,.sl 133 e),(1136,.sl 133 o)])
def AAF (z0:Il) (z1:ZAE) (k:Nv→Option (List Int)) (a:(List Int)) (b:(List Int)) (d:ByteArray):Option (List Int):=(z0 d).bind fun r0=>k (.c0 a b 16 r0)
def Gg (z0:Il) (z1:ZAE) (k:Nv→Option (List Int)):Nv→Option (List Int)
 | .c0 d g e b=>cond (e<64) (cond (0≤(w64 (e - 2))&&(w64 (e - 2))<(b.length:Int)) ((z1 (b.getD (w64 (e - 2)).toNat 0) 131072 524288 1024 true).bind fun r0=>cond (0≤(w64 (e - 7))&&(w64 (e - 7))<(b.length:Int)) (cond (0≤(w64 (e - 15))&&(w64 (e - 15))<(b.length:Int)) ((z1 (b.getD (w64 (e - 15)).toNat 0) 128 262144 8 true).bind fun r1=>cond (0≤(w64 (e - 16))&&(w64 (e - 16))<(b.length:Int)) (cond (((b.length+1)*4)≤140737488355328) (k (.c0 d g (w64 (e+1)) (b++[w32 ((w32 ((w32 (r0+(b.getD (w64 (e - 7)).toNat 0)))+r1))+(b.getD (w64 (e - 16)).toNat 0))]))) none) none) none) none) none) (cond (((0+d.length)*4)≤140737488355328) (k (.c1 d g 0 b ([]++d))) none)
 | .c1 d g f b a=>cond (f<64) (cond (0≤(4:Int)&&4<(a.length:Int)) (cond (0≤(5:Int)&&5<(a.length:Int)) (cond (0≤(6:Int)&&6<(a.length:Int)) (cond (0≤(7:Int)&&7<(a.length:Int)) ((z1 (a.getD (4:Int).toNat 0) 64 2048 33554432 false).bind fun r0=>cond (0≤f&&f<(g.length:Int)) (cond (0≤f&&f<(b.length:Int)) (cond (0≤(0:Int)&&0<(a.length:Int)) (cond (0≤(1:Int)&&1<(a.length:Int)) (cond (0≤(0:Int)&&0<(a.length:Int)) (cond (0≤(2:Int)&&2<(a.length:Int)) (cond (0≤(1:Int)&&1<(a.length:Int)) (cond (0≤(2:Int)&&2<(a.length:Int)) (cond (0≤(0:Int)&&0<(a.length:Int)) ((z1 (a.getD (0:Int).toNat 0) 4 8192 4194304 false).bind fun r1=>k (.c2 d g f (w32 ((w32 ((w32 ((w32 ((a.getD (7:Int).toNat 0)+r0))+(w32 (((BitVec.toNat ((BitVec.ofInt (IntKind.bits .u32) (w32 (((BitVec.toNat ((BitVec.ofInt (IntKind.bits .u32) (a.getD (4:Int).toNat 0)) &&& (BitVec.ofInt (IntKind.bits .u32) (a.getD (5:Int).toNat 0)))):Nat):Int))) ^^^ (BitVec.ofInt (IntKind.bits .u32) (w32 (((BitVec.toNat ((BitVec.ofInt (IntKind.bits .u32) (w32 (4294967295 - (a.getD (4:Int).toNat 0)))) &&& (BitVec.ofInt (IntKind.bits .u32) (a.getD (6:Int).toNat 0)))):Nat):Int))))):Nat):Int))))+(g.getD f.toNat 0)))+(b.getD f.toNat 0))) (w32 (r1+(w32 (((BitVec.toNat ((BitVec.ofInt (IntKind.bits .u32) (w32 (((BitVec.toNat ((BitVec.ofInt (IntKind.bits .u32) (w32 (((BitVec.toNat ((BitVec.ofInt (IntKind.bits .u32) (a.getD (0:Int).toNat 0)) &&& (BitVec.ofInt (IntKind.bits .u32) (a.getD (1:Int).toNat 0)))):Nat):Int))) ^^^ (BitVec.ofInt (IntKind.bits .u32) (w32 (((BitVec.toNat ((BitVec.ofInt (IntKind.bits .u32) (a.getD (0:Int).toNat 0)) &&& (BitVec.ofInt (IntKind.bits .u32) (a.getD (2:Int).toNat 0)))):Nat):Int))))):Nat):Int))) ^^^ (BitVec.ofInt (IntKind.bits .u32) (w32 (((BitVec.toNat ((BitVec.ofInt (IntKind.bits .u32) (a.getD (1:Int).toNat 0)) &&& (BitVec.ofInt (IntKind.bits .u32) (a.getD (2:Int).toNat 0)))):Nat):Int))))):Nat):Int)))) 7 b a)) none) none) none) none) none) none) none) none) none) none) none) none) none) (k (.c3 d 0 a []))
 | .c2 d g f j o h b a=>cond (h > 0) (cond (0≤(w64 (h - 1))&&(w64 (h - 1))<(a.length:Int)) (cond (0≤h&&h<(a.length:Int)) (k (.c2 d g f j o (w64 (h - 1)) b (a.set h.toNat (a.getD (w64 (h - 1)).toNat 0)))) none) none) (cond (0≤(4:Int)&&4<(a.length:Int)) (cond (0≤(4:Int)&&4<(a.length:Int)) (cond (0≤(0:Int)&&0<((a.set (4:Int).toNat (w32 ((a.getD (4:Int).toNat 0)+j))).length:Int)) (k (.c1 d g (w64 (f+1)) b ((a.set (4:Int).toNat (w32 ((a.getD (4:Int).toNat 0)+j))).set (0:Int).toNat (w32 (j+o))))) none) none) none)
 | .c3 d i a n=>cond (i<8) (cond (0≤i&&i<(d.length:Int)) (cond (0≤i&&i<(a.length:Int)) (cond (((n.length+1)*4)≤140737488355328) (k (.c3 d (w64 (i+1)) a (n++[w32 ((d.getD i.toNat 0)+(a.getD i.toNat 0))]))) none) none) none) (some n)
def Yb:Nat→Nv→Option (List Int)
 | 0,_=>none
 | m+1,s=>Gg Vh Ef (Yb m) s
def Jl:Kv:=AAF Vh Ef (Yb gas)
theorem VAO:Tells ctx PP 82 cv14 cv6 (fun a=>Jl a.1 a.2.1 a.2.2):=fz (cc1 XAE (cc5 FAX cn)) Tryz.func82 [] GAX (fun z=>Gg z.1 z.2.1) (fun z k a=>AAF z.1 z.2.1 k a.1 a.2.1 a.2.2) Yb gas (fun s s' h=>by cases s <;> cases s' <;> first | (cases h;done) | (cases h;rfl) | exact (rg_ne h (by kernel_rfl)).elim) (fun _ _ s=>by cases s <;> kernel_rfl) fun _ _ _=>by kernel_rfl
abbrev WAO:=SHasher→ByteArray→Option SHasher
inductive Ov where
 | c0 (a b:ByteArray) (d:Int) (e f:SHasher) (g h:(List Int))
def HAX:Ov→LI
 | .c0 d e f a b g h=>(tdo Tryz.f45 4064,[vs 1 d,vp 2 128,vp 4 256,vo 5 368,vo 6 432,vs 7 e,vi 8 f],[(128,.var [.str a.fState,.str a.fRest,li a.fCount]),(256,.var [.str b.fState,.str b.fRest,li b.fCount]),(368,.sl 133 g),(432,.sl 133 h)])
def BAF (z0:Dv) (z1:Il) (z2:Jv) (z3:Kv) (z4:Qo) (k:Ov→Option SHasher) (a:SHasher) (b:ByteArray):Option SHasher:=(z0 a).bind fun r0=>cond (!r0) (some a) (cond ((w64 (a.fCount+(b.size:Int))) > 1000000000) (some a) ((z1 a.fState).bind fun r1=>z2.bind fun r2=>cond ((a.fRest.size+b.size)≤9223372036854775807) (k (.c0 b (a.fRest++b) 0 a ⟨⟨#[]⟩,⟨#[]⟩,0⟩ r1 r2)) none))
def J8 (z0:Dv) (z1:Il) (z2:Jv) (z3:Kv) (z4:Qo) (k:Ov→Option SHasher):Ov→Option SHasher
 | .c0 d b a e h f g=>cond ((w64 (a+64))≤(b.size:Int)) (cond (((decide (0≤a)) && (decide (a≤(w64 (a+64))))) && (decide ((w64 (a+64))≤(b.size:Int)))) ((z3 f g (b.extract a.toNat (w64 (a+64)).toNat)).bind fun r0=>k (.c0 d b (w64 (a+64)) e h r0 g)) none) ((z4 f).bind fun r1=>cond (0≤a&&a≤(b.size:Int)) (some ⟨r1,b.extract a.toNat b.size,w64 (e.fCount+(d.size:Int))⟩) none)
def Yo:Nat→Ov→Option SHasher
 | 0,_=>none
 | m+1,s=>J8 Uh Vh Vo Jl Hl (Yo m) s
def L8:WAO:=BAF Uh Vh Vo Jl Hl (Yo gas)
theorem IAX:Tells ctx PP 45 cv15 cv9 (fun a=>L8 a.1 a.2):=fz (cc1 QAO (cc1 XAE (cc0 TAO (cc3 VAO (cc1 SAE cn))))) Tryz.func45 [] HAX (fun z=>J8 z.1 z.2.1 z.2.2.1 z.2.2.2.1 z.2.2.2.2.1) (fun z k a=>BAF z.1 z.2.1 z.2.2.1 z.2.2.2.1 z.2.2.2.2.1 k a.1 a.2) Yo gas (fun s s' h=>by cases s;cases s';(repeat cases ‹SHasher›);cases h;rfl) (fun _ _ s=>by cases s <;> kernel_rfl) fun _ _ _=>by kernel_rfl
abbrev XAO:=SHasher→Option ByteArray
inductive Pv where
 | c0 (b:SHasher) (a:(List Int))
 | c1 (d e:Int) (b:SHasher) (a:(List Int))
 | c2 (d e:Int) (f g:Int) (b:SHasher) (a:(List Int))
 | c3 (h:Int) (a i j:(List Int))
def JAX:Pv→LI
 | .c0 a b=>(tdo Tryz.f44 992,[vp 1 64,vo 3 240],[(64,.var [.str a.fState,.str a.fRest,li a.fCount]),(240,.sl 5 b)])
 | .c1 d e a b=>(tdo Tryz.f44 8144,[vp 1 64,vo 3 240,vi 4 d,vi 5 e],[(64,.var [.str a.fState,.str a.fRest,li a.fCount]),(240,.sl 5 b)])
 | .c2 d e f g a b=>(tdo Tryz.f44 2085456,[vp 1 64,vo 3 240,vi 4 d,vi 5 e,vi 6 f,vi 7 g],[(64,.var [.str a.fState,.str a.fRest,li a.fCount]),(240,.sl 5 b)])
 | .c3 h b i j=>(tdo Tryz.f44 65488,[vo 3 240,vo 8 560,vo 9 624,vi 10 h],[(240,.sl 5 b),(560,.sl 133 i),(624,.sl 133 j)])
def CAF (z0:Dv) (z1:Il) (z2:Jv) (z3:Kv) (z4:Qo) (k:Pv→Option ByteArray) (a:SHasher):Option ByteArray:=(z0 a).bind fun r0=>cond (!r0) (some ⟨#[]⟩) (cond (a.fRest.size≤9223372036854775807) (cond ((((bytesOf a.fRest).length+1)*1)≤140737488355328) (k (.c0 a ((bytesOf a.fRest)++[(128:Int)]))) none) none)
def Hg (z0:Dv) (z1:Il) (z2:Jv) (z3:Kv) (z4:Qo) (k:Pv→Option ByteArray):Pv→Option ByteArray
 | .c0 b a=>cond (((a.length:Int).tmod 64) != 56) (cond (((a.length+1)*1)≤140737488355328) (k (.c0 b (a++[(0:Int)]))) none) (k (.c1 (w64 (8*b.fCount)) 7 b a))
 | .c1 f e b a=>cond (e≥0) (k (.c2 f e f 0 b a)) ((z1 b.fState).bind fun r0=>z2.bind fun r1=>k (.c3 0 a r0 r1))
 | .c2 f e g h b a=>cond (h<e) (k (.c2 f e (w64 (g.tdiv 256)) (w64 (h+1)) b a)) (cond (((a.length+1)*1)≤140737488355328) (k (.c1 f (w64 (e - 1)) b (a++[w8 (g.tmod 256)]))) none)
 | .c3 d a i j=>cond (d<(a.length:Int)) (cond (((decide (0≤d)) && (decide (d≤(w64 (d+64))))) && (decide ((w64 (d+64))≤(a.length:Int)))) ((z3 i j (ofBytes ((a.drop d.toNat).take ((w64 (d+64)).toNat - d.toNat)))).bind fun r0=>k (.c3 (w64 (d+64)) a r0 j)) none) ((z4 i).bind fun r1=>some r1)
def Zb:Nat→Pv→Option ByteArray
 | 0,_=>none
 | m+1,s=>Hg Uh Vh Vo Jl Hl (Zb m) s
def N8:XAO:=CAF Uh Vh Vo Jl Hl (Zb gas)
theorem KAX:Tells ctx PP 44 cv9 cv8 (fun a=>N8 a):=fz (cc1 QAO (cc1 XAE (cc0 TAO (cc3 VAO (cc1 SAE cn))))) Tryz.func44 [] JAX (fun z=>Hg z.1 z.2.1 z.2.2.1 z.2.2.2.1 z.2.2.2.2.1) (fun z k a=>CAF z.1 z.2.1 z.2.2.1 z.2.2.2.1 z.2.2.2.2.1 k a) Zb gas (fun s s' h=>by cases s <;> cases s' <;> first | ((repeat cases ‹SHasher›);cases h;done) | ((repeat cases ‹SHasher›);cases h;rfl) | exact (rg_ne h (by kernel_rfl)).elim) (fun _ _ s=>by cases s <;> kernel_rfl) fun _ _ _=>by kernel_rfl
abbrev Qv:=ByteArray→Option ByteArray
def DAF (z0:OAO) (z1:WAO) (z2:XAO) (a:ByteArray):Option ByteArray:=z0.bind fun r0=>(z1 r0 a).bind fun r1=>(z2 r1).bind fun r2=>some r2
def Gf:Qv:=DAF G8 L8 N8
theorem EAF:Tells ctx PP 19 cv8 cv8 (fun a=>Gf a):=fz0 (cc0 BAX (cc2 IAX (cc1 KAX cn))) Tryz.func19 [] (fun z a=>DAF z.1 z.2.1 z.2.2.1 a) fun _ _=>by kernel_rfl
abbrev YAO:=SL01Cur→Option (SThing×SL01Cur)
def FAF (z0:Dl) (z1:IAO) (z2:OAE) (z3:KAO) (z4:Qv) (a:SL01Cur):Option (SThing×SL01Cur):=(z0 ⟨(),a.fI,a.fH⟩ 6).bind fun r0=>(z0 ⟨(),r0.2.fI,r0.2.fH⟩ 3).bind fun r1=>(z1 ⟨(),r1.2.fI,r1.2.fH⟩ 2).bind fun r2=>(z1 ⟨(),r2.2.fI,r2.2.fH⟩ 2).bind fun r3=>cond ((w64 (1+r1.1)) == 3) ((z0 ⟨(),r3.2.fI,r3.2.fH⟩ 9).bind fun r4=>(z2 ⟨(),r4.2.fI,r4.2.fH⟩ r4.1).bind fun r5=>some (⟨w64 (1+r0.1),w64 (1+r1.1),r2.1,r3.1,false,false,r5.1,0⟩,⟨(),r5.2.fI,r5.2.fH⟩)) (cond ((w64 (1+r1.1)) == 2) ((z0 ⟨(),r3.2.fI,r3.2.fH⟩ 17).bind fun r6=>(z1 ⟨(),r6.2.fI,r6.2.fH⟩ 4).bind fun r7=>(z3 ⟨(),r7.2.fI,r7.2.fH⟩ [⟨#[97]⟩,⟨#[98]⟩,⟨#[99]⟩]).bind fun r8=>(z4 r8.1).bind fun r9=>some (⟨w64 (1+r0.1),w64 (1+r1.1),r2.1,r3.1,!r7.1,false,r9,r6.1⟩,⟨(),r8.2.fI,r8.2.fH⟩)) ((z1 ⟨(),r3.2.fI,r3.2.fH⟩ 4).bind fun r10=>(z3 ⟨(),r10.2.fI,r10.2.fH⟩ [⟨#[97]⟩,⟨#[98]⟩,⟨#[99]⟩]).bind fun r11=>(z4 r11.1).bind fun r12=>some (⟨w64 (1+r0.1),w64 (1+r1.1),r2.1,r3.1,false,!r10.1,r12,0⟩,⟨(),r11.2.fI,r11.2.fH⟩)))
def O8:YAO:=FAF Rh A8 Zu E8 Gf
theorem LAX:Tells ctx PP 67 cv51 cv57 (fun a=>O8 a):=fz0 (cc2 Po (cc2 WAW (cc2 JAO (cc2 YAW (cc1 EAF cn))))) Tryz.func67 [0] (fun z a=>FAF z.1 z.2.1 z.2.2.1 z.2.2.2.1 z.2.2.2.2.1 a) fun _ _=>by kernel_rfl
abbrev ZAO:=SL01Cur→(List Int)→Option (Int×SL01Cur)
def GAF (z0:Dl) (b:SL01Cur) (a:(List Int)):Option (Int×SL01Cur):=(z0 ⟨(),b.fI,b.fH⟩ (a.length:Int)).bind fun r0=>cond (0≤r0.1&&r0.1<(a.length:Int)) (some (a.getD r0.1.toNat 0,⟨(),r0.2.fI,r0.2.fH⟩)) none
def P8:ZAO:=GAF Rh
theorem MAX:Tells ctx PP 68 cv58 cv52 (fun a=>P8 a.1 a.2):=fz0 (cc2 Po cn) Tryz.func68 [0] (fun z a=>GAF z.1 a.1 a.2) fun _ _=>by kernel_rfl
abbrev AAP:=Int→Int→Option ByteArray
inductive Sv where
 | c0 (a b d:Int) (e:(List Int))
def NAX:Sv→LI
 | .c0 a b d e=>(tdo Tryz.f69 464,[vi 0 a,(1,[.one (.int .u8 b)]),vo 5 368,vi 6 d],[(368,.sl 5 e)])
def HAF (k:Sv→Option ByteArray) (a:Int) (b:Int):Option ByteArray:=cond ((((decide (0≤a)) && (decide (a≤a))) && (decide (a≤9223372036854775807))) && (decide ((a.toNat*1)≤140737488355328))) (k (.c0 a b 0 (List.replicate a.toNat (0:Int)))) none
def Q8 (k:Sv→Option ByteArray):Sv→Option ByteArray
 | .c0 d e a b=>cond (a<d) (cond (0≤a&&a<(b.length:Int)) (k (.c0 d e (w64 (a+1)) (b.set a.toNat e))) none) (some (ofBytes b))
def Zo:Nat→Sv→Option ByteArray
 | 0,_=>none
 | m+1,s=>Q8 (Zo m) s
def Tv:AAP:=HAF (Zo gas)
theorem OAX:Tells ctx PP 69 cv59 cv8 (fun a=>Tv a.1 a.2):=fz cn Tryz.func69 [] NAX (fun _=>Q8) (fun _ k a=>HAF k a.1 a.2) Zo gas (fun s s' h=>by cases s;cases s';cases h;rfl) (fun _ _ s=>by cases s <;> kernel_rfl) fun _ _ _=>by kernel_rfl
abbrev IAF:=SL01Cur→Option (SThing×SL01Cur)
def JAF (z0:YAO) (z1:Dl) (z2:ZAO) (z3:AAP) (a:SL01Cur):Option (SThing×SL01Cur):=(z0 ⟨(),a.fI,a.fH⟩).bind fun r0=>(z1 ⟨(),r0.2.fI,r0.2.fH⟩ 20).bind fun r1=>cond (r1.1 == 0) ((z2 ⟨(),r1.2.fI,r1.2.fH⟩ [0,-(1:Int),1000,1001]).bind fun r2=>some (⟨r2.1,r0.1.fKind,r0.1.fHidden,r0.1.fFixed,r0.1.fSigns,r0.1.fWraps,r0.1.fValue,r0.1.fNext⟩,⟨(),r2.2.fI,r2.2.fH⟩)) (cond (r1.1 == 1) ((z1 ⟨(),r1.2.fI,r1.2.fH⟩ 5).bind fun r3=>some (⟨r0.1.fId,r3.1,r0.1.fHidden,r0.1.fFixed,r0.1.fSigns,r0.1.fWraps,r0.1.fValue,r0.1.fNext⟩,⟨(),r3.2.fI,r3.2.fH⟩)) (cond (r1.1 == 2) (some (⟨r0.1.fId,r0.1.fKind,r0.1.fHidden,r0.1.fFixed,!r0.1.fSigns,r0.1.fWraps,r0.1.fValue,r0.1.fNext⟩,⟨(),r1.2.fI,r1.2.fH⟩)) (cond (r1.1 == 3) (some (⟨r0.1.fId,r0.1.fKind,r0.1.fHidden,r0.1.fFixed,r0.1.fSigns,!r0.1.fWraps,r0.1.fValue,r0.1.fNext⟩,⟨(),r1.2.fI,r1.2.fH⟩)) (cond (r1.1 == 4) ((z2 ⟨(),r1.2.fI,r1.2.fH⟩ [-(1:Int),0,16,17]).bind fun r4=>some (⟨r0.1.fId,r0.1.fKind,r0.1.fHidden,r0.1.fFixed,r0.1.fSigns,r0.1.fWraps,r0.1.fValue,r4.1⟩,⟨(),r4.2.fI,r4.2.fH⟩)) (cond (r1.1 == 5) ((z2 ⟨(),r1.2.fI,r1.2.fH⟩ [31,32,33,100,101]).bind fun r5=>(z3 r5.1 70).bind fun r6=>some (⟨r0.1.fId,r0.1.fKind,r0.1.fHidden,r0.1.fFixed,r0.1.fSigns,r0.1.fWraps,r6,r0.1.fNext⟩,⟨(),r5.2.fI,r5.2.fH⟩)) (some (r0.1,⟨(),r1.2.fI,r1.2.fH⟩)))))))
def Wv:IAF:=JAF O8 Rh P8 Tv
theorem BAP:Tells ctx PP 27 cv51 cv57 (fun a=>Wv a):=fz0 (cc1 LAX (cc2 Po (cc2 MAX (cc2 OAX cn)))) Tryz.func27 [0] (fun z a=>JAF z.1 z.2.1 z.2.2.1 z.2.2.2.1 a) fun _ _=>by kernel_rfl
abbrev ZAN:=Unit→Option SThing
def KAF (z0:JAE) (z1:IAF) (a:Unit):Option SThing:=(z0 ()).bind fun r0=>(z1 ⟨(),r0.fI,r0.fH⟩).bind fun r1=>some r1.1
def U7:ZAN:=KAF Xu Wv
theorem QAW:Tells ctx PP 11 cv49 cv2 (fun a=>U7 a):=fz0 (cc1 GAO (cc1 BAP cn)) Tryz.func11 [] (fun z a=>KAF z.1 z.2.1 a) fun _ _=>by kernel_rfl
abbrev Hf:=Int→Int→Int→Option Bool
def CAP (a:Int) (b:Int) (d:Int):Option Bool:=cond (a≥b) (some (decide (a≤d))) (some false)
def Me:Hf:=CAP
theorem Ap:Tells ctx PP 36 cv3 cv4 (fun a=>Me a.1 a.2.1 a.2.2):=fz0 cn Tryz.func36 [] (fun _ a=>CAP a.1 a.2.1 a.2.2) fun _ _=>by kernel_rfl
abbrev Q7:=SThing→Option Bool
def LAF (z0:Hf) (a:SThing):Option Bool:=(z0 a.fId 1 1000).bind fun r0=>cond (!r0) (some false) ((z0 a.fNext 0 16).bind fun r1=>cond (!r1) (some false) (cond (a.fKind != 2) (cond (a.fNext != 0) (some false) (cond a.fSigns (some false) (cond (a.fKind != 1) (cond a.fWraps (some false) (cond (a.fKind == 1) (cond (a.fKind == 1) (some ((a.fValue.size:Int) == 32)) (cond (a.fKind == 3) (some (decide ((a.fValue.size:Int)≤100))) (some false))) (cond (a.fKind == 2) (some ((a.fValue.size:Int) == 32)) (cond (a.fKind == 3) (some (decide ((a.fValue.size:Int)≤100))) (some false))))) (cond (a.fKind == 1) (cond (a.fKind == 1) (some ((a.fValue.size:Int) == 32)) (cond (a.fKind == 3) (some (decide ((a.fValue.size:Int)≤100))) (some false))) (cond (a.fKind == 2) (some ((a.fValue.size:Int) == 32)) (cond (a.fKind == 3) (some (decide ((a.fValue.size:Int)≤100))) (some false))))))) (cond (a.fKind != 1) (cond a.fWraps (some false) (cond (a.fKind == 1) (cond (a.fKind == 1) (some ((a.fValue.size:Int) == 32)) (cond (a.fKind == 3) (some (decide ((a.fValue.size:Int)≤100))) (some false))) (cond (a.fKind == 2) (some ((a.fValue.size:Int) == 32)) (cond (a.fKind == 3) (some (decide ((a.fValue.size:Int)≤100))) (some false))))) (cond (a.fKind == 1) (cond (a.fKind == 1) (some ((a.fValue.size:Int) == 32)) (cond (a.fKind == 3) (some (decide ((a.fValue.size:Int)≤100))) (some false))) (cond (a.fKind == 2) (some ((a.fValue.size:Int) == 32)) (cond (a.fKind == 3) (some (decide ((a.fValue.size:Int)≤100))) (some false)))))))
def Jo:Q7:=LAF Me
theorem IAE:Tells ctx PP 15 cv2 cv4 (fun a=>Jo a):=fz0 (cc3 Ap cn) Tryz.func15 [] (fun z a=>LAF z.1 a) fun _ _=>by kernel_rfl
abbrev MAF:=Int→Option ByteArray
inductive Xv where
 | c0 (a:Int) (b:(List Int))
def PAX:Xv→LI
 | .c0 a b=>(tdo Tryz.f29 224,[vi 0 a,vo 3 240],[(240,.sl 5 b)])
def DAP (k:Xv→Option ByteArray) (a:Int):Option ByteArray:=k (.c0 a [])
def U8 (k:Xv→Option ByteArray):Xv→Option ByteArray
 | .c0 a b=>cond (a > 127) (cond (((b.length+1)*1)≤140737488355328) (k (.c0 (w64 (a.tdiv 128)) (b++[w8 (w64 (128+(a.tmod 128)))]))) none) (cond (((b.length+1)*1)≤140737488355328) (some (ofBytes (b++[w8 a]))) none)
def Dp:Nat→Xv→Option ByteArray
 | 0,_=>none
 | m+1,s=>U8 (Dp m) s
def V8:MAF:=DAP (Dp gas)
theorem EAP:Tells ctx PP 29 cv1 cv8 (fun a=>V8 a):=fz cn Tryz.func29 [] PAX (fun _=>U8) (fun _ k a=>DAP k a) Dp gas (fun s s' h=>by cases s;cases s';cases h;rfl) (fun _ _ s=>by cases s <;> kernel_rfl) fun _ _ _=>by kernel_rfl
abbrev Jf:=Int→Option ByteArray
def NAF (a:Int):Option ByteArray:=some (ofBytes [w8 a])
def Qc:Jf:=NAF
theorem Ep:Tells ctx PP 30 cv1 cv8 (fun a=>Qc a):=fz0 cn Tryz.func30 [] (fun _ a=>NAF a) fun _ _=>by kernel_rfl
abbrev FAP:=SThing→Option Int
inductive Yv where
 | c0 (a b d:Int) (e:(List Bool))
def QAX:Yv→LI
 | .c0 a b d e=>(tdo Tryz.f31 232,[vi 3 a,vo 14 944,vi 15 b,vi 16 d],[(944,.sl 4 e)])
def OAF (k:Yv→Option Int) (a:SThing):Option Int:=k (.c0 0 ((4:Nat):Int) 0 [a.fHidden,a.fFixed,a.fSigns,a.fWraps])
def HAP (k:Yv→Option Int):Yv→Option Int
 | .c0 d e a b=>cond (a<e) (cond (0≤a&&a<(b.length:Int)) (cond (b.getD a.toNat false) (cond (0≤a) (k (.c0 (w64 (((BitVec.toNat ((BitVec.ofInt (IntKind.bits .i64) d) ||| (BitVec.ofInt (IntKind.bits .i64) (w64 (1*(2 ^ (Min.min a.toNat (IntKind.bits .i64)))))))):Nat):Int)) e (w64 (a+1)) b)) none) (k (.c0 d e (w64 (a+1)) b))) none) (some d)
def X8:Nat→Yv→Option Int
 | 0,_=>none
 | m+1,s=>HAP (X8 m) s
def Y8:FAP:=OAF (X8 gas)
theorem RAX:Tells ctx PP 31 cv2 cv1 (fun a=>Y8 a):=fz cn Tryz.func31 [] QAX (fun _=>HAP) (fun _ k a=>OAF k a) X8 gas (fun s s' h=>by cases s;cases s';cases h;rfl) (fun _ _ s=>by cases s <;> kernel_rfl) fun _ _ _=>by kernel_rfl
abbrev IAP:=ByteArray→Option ByteArray
def PAF (z0:MAF) (a:ByteArray):Option ByteArray:=(z0 (a.size:Int)).bind fun r0=>cond ((r0.size+a.size)≤9223372036854775807) (some (r0++a)) none
def Z8:IAP:=PAF V8
theorem SAX:Tells ctx PP 32 cv8 cv8 (fun a=>Z8 a):=fz0 (cc1 EAP cn) Tryz.func32 [] (fun z a=>PAF z.1 a) fun _ _=>by kernel_rfl
abbrev GAE:=SThing→Option (ByteArray×Bool)
def QAF (z0:Q7) (z1:MAF) (z2:Jf) (z3:FAP) (z4:IAP) (a:SThing):Option (ByteArray×Bool):=(z0 a).bind fun r0=>cond (!r0) (some (⟨#[]⟩,false)) ((z1 a.fId).bind fun r1=>(z2 a.fKind).bind fun r2=>cond ((r1.size+r2.size)≤9223372036854775807) ((z3 a).bind fun r3=>(z2 r3).bind fun r4=>cond (((r1++r2).size+r4.size)≤9223372036854775807) ((z4 a.fValue).bind fun r5=>cond ((((r1++r2)++r4).size+r5.size)≤9223372036854775807) ((z1 a.fNext).bind fun r6=>cond (((((r1++r2)++r4)++r5).size+r6.size)≤9223372036854775807) (some ((((r1++r2)++r4)++r5)++r6,true)) none) none) none) none)
def Vu:GAE:=QAF Jo V8 Qc Y8 Z8
theorem EAO:Tells ctx PP 12 cv2 cv28 (fun a=>Vu a):=fz0 (cc1 IAE (cc1 EAP (cc1 Ep (cc1 RAX (cc1 SAX cn))))) Tryz.func12 [] (fun z a=>QAF z.1 z.2.1 z.2.2.1 z.2.2.2.1 z.2.2.2.2.1 a) fun _ _=>by kernel_rfl
abbrev RAF:=ByteArray→Int→Option (Int×Int×Bool)
inductive Zv where
 | c0 (a:ByteArray) (b d e:Int)
def TAX:Zv→LI
 | .c0 a b d e=>(tdo Tryz.f70 976,[vs 0 a,vi 1 b,vi 7 d,vi 8 e],[])
def C9 (z0:Hf) (k:Zv→Option (Int×Int×Bool)) (a:ByteArray) (b:Int):Option (Int×Int×Bool):=(z0 b 0 (a.size:Int)).bind fun r0=>cond (!r0) (some (0,0,false)) (k (.c0 a b 0 0))
def D9 (z0:Hf) (k:Zv→Option (Int×Int×Bool)):Zv→Option (Int×Int×Bool)
 | .c0 d b e a=>cond (a<5) (cond ((w64 (b+a))<(d.size:Int)) (cond (0≤(w64 (b+a))&&(w64 (b+a))<(d.size:Int)) (cond (0≤(w64 (7*a))) (cond ((w64 (bt d (w64 (b+a))))<128) (cond ((w64 (bt d (w64 (b+a)))) == 0) (cond (a > 0) (some (0,0,false)) (cond ((w64 (e+(w64 (((w64 (bt d (w64 (b+a)))).tmod 128)*(2 ^ (Min.min (w64 (7*a)).toNat (IntKind.bits .i64))))))) > 1000000000) (some (0,0,false)) (some (w64 (e+(w64 (((w64 (bt d (w64 (b+a)))).tmod 128)*(2 ^ (Min.min (w64 (7*a)).toNat (IntKind.bits .i64)))))),(w64 ((w64 (b+a))+1),true))))) (cond ((w64 (e+(w64 (((w64 (bt d (w64 (b+a)))).tmod 128)*(2 ^ (Min.min (w64 (7*a)).toNat (IntKind.bits .i64))))))) > 1000000000) (some (0,0,false)) (some (w64 (e+(w64 (((w64 (bt d (w64 (b+a)))).tmod 128)*(2 ^ (Min.min (w64 (7*a)).toNat (IntKind.bits .i64)))))),(w64 ((w64 (b+a))+1),true))))) (k (.c0 d b (w64 (e+(w64 (((w64 (bt d (w64 (b+a)))).tmod 128)*(2 ^ (Min.min (w64 (7*a)).toNat (IntKind.bits .i64))))))) (w64 (a+1))))) none) none) (some (0,0,false))) (some (0,0,false))
def Ig:Nat→Zv→Option (Int×Int×Bool)
 | 0,_=>none
 | m+1,s=>D9 Me (Ig m) s
def Ll:RAF:=C9 Me (Ig gas)
theorem JAP:Tells ctx PP 70 cv10 cv60 (fun a=>Ll a.1 a.2):=fz (cc3 Ap cn) Tryz.func70 [] TAX (fun z=>D9 z.1) (fun z k a=>C9 z.1 k a.1 a.2) Ig gas (fun s s' h=>by cases s;cases s';cases h;rfl) (fun _ _ s=>by cases s <;> kernel_rfl) fun _ _ _=>by kernel_rfl
abbrev KAP:=SFields→Option (Int×SFields)
def F9 (z0:RAF) (a:SFields):Option (Int×SFields):=(z0 a.fText a.fAt).bind fun r0=>cond (!r0.2.2) (some (0,⟨a.fText,a.fAt,true⟩)) (some (r0.1,⟨a.fText,r0.2.1,a.fBad⟩))
def Nl:KAP:=F9 Ll
theorem UAX:Tells ctx PP 33 cv61 cv62 (fun a=>Nl a):=fz0 (cc2 JAP cn) Tryz.func33 [0] (fun z a=>F9 z.1 a) fun _ _=>by kernel_rfl
abbrev LAP:=ByteArray→Int→Option (ByteArray×Int×Bool)
def G9 (z0:RAF) (a:ByteArray) (b:Int):Option (ByteArray×Int×Bool):=(z0 a b).bind fun r0=>cond (!r0.2.2) (some (⟨#[]⟩,0,false)) (cond (r0.1 > 20000) (some (⟨#[]⟩,0,false)) (cond (r0.1 > (w64 ((a.size:Int) - r0.2.1))) (some (⟨#[]⟩,0,false)) (cond (((decide (0≤r0.2.1)) && (decide (r0.2.1≤(w64 (r0.2.1+r0.1))))) && (decide ((w64 (r0.2.1+r0.1))≤(a.size:Int)))) (some (a.extract r0.2.1.toNat (w64 (r0.2.1+r0.1)).toNat,w64 (r0.2.1+r0.1),true)) none)))
def Fp:LAP:=G9 Ll
theorem VAX:Tells ctx PP 71 cv10 cv46 (fun a=>Fp a.1 a.2):=fz0 (cc2 JAP cn) Tryz.func71 [] (fun z a=>G9 z.1 a.1 a.2) fun _ _=>by kernel_rfl
abbrev NAP:=SFields→Option (ByteArray×SFields)
def H9 (z0:LAP) (a:SFields):Option (ByteArray×SFields):=(z0 a.fText a.fAt).bind fun r0=>cond (!r0.2.2) (some (⟨#[]⟩,⟨a.fText,a.fAt,true⟩)) (some (r0.1,⟨a.fText,r0.2.1,a.fBad⟩))
def Gp:NAP:=H9 Fp
theorem WAX:Tells ctx PP 34 cv61 cv63 (fun a=>Gp a):=fz0 (cc2 VAX cn) Tryz.func34 [0] (fun z a=>H9 z.1 a) fun _ _=>by kernel_rfl
abbrev AAO:=ByteArray→Option (SThing×Bool)
def I9 (z0:KAP) (z1:NAP) (z2:GAE) (a:ByteArray):Option (SThing×Bool):=(z0 ⟨a,0,false⟩).bind fun r0=>(z0 r0.2).bind fun r1=>(z0 r1.2).bind fun r2=>(z1 r2.2).bind fun r3=>(z0 r3.2).bind fun r4=>(z2 ⟨r0.1,r1.1,(w64 (((BitVec.toNat ((BitVec.ofInt (IntKind.bits .i64) r2.1) &&& (BitVec.ofInt (IntKind.bits .i64) 1))):Nat):Int)) != 0,(w64 (((BitVec.toNat ((BitVec.ofInt (IntKind.bits .i64) r2.1) &&& (BitVec.ofInt (IntKind.bits .i64) 2))):Nat):Int)) != 0,(w64 (((BitVec.toNat ((BitVec.ofInt (IntKind.bits .i64) r2.1) &&& (BitVec.ofInt (IntKind.bits .i64) 4))):Nat):Int)) != 0,(w64 (((BitVec.toNat ((BitVec.ofInt (IntKind.bits .i64) r2.1) &&& (BitVec.ofInt (IntKind.bits .i64) 8))):Nat):Int)) != 0,r3.1,r4.1⟩).bind fun r5=>cond r4.2.fBad (some (⟨0,0,false,false,false,false,⟨#[]⟩,0⟩,false)) (cond (!r5.2) (some (⟨0,0,false,false,false,false,⟨#[]⟩,0⟩,false)) (cond (!((ByteArray.toList r5.1) == (ByteArray.toList a))) (some (⟨0,0,false,false,false,false,⟨#[]⟩,0⟩,false)) (some (⟨r0.1,r1.1,(w64 (((BitVec.toNat ((BitVec.ofInt (IntKind.bits .i64) r2.1) &&& (BitVec.ofInt (IntKind.bits .i64) 1))):Nat):Int)) != 0,(w64 (((BitVec.toNat ((BitVec.ofInt (IntKind.bits .i64) r2.1) &&& (BitVec.ofInt (IntKind.bits .i64) 2))):Nat):Int)) != 0,(w64 (((BitVec.toNat ((BitVec.ofInt (IntKind.bits .i64) r2.1) &&& (BitVec.ofInt (IntKind.bits .i64) 4))):Nat):Int)) != 0,(w64 (((BitVec.toNat ((BitVec.ofInt (IntKind.bits .i64) r2.1) &&& (BitVec.ofInt (IntKind.bits .i64) 8))):Nat):Int)) != 0,r3.1,r4.1⟩,true))))
def Zk:AAO:=I9 Nl Gp Vu
theorem RAW:Tells ctx PP 13 cv8 cv64 (fun a=>Zk a):=fz0 (cc1 UAX (cc1 WAX (cc1 EAO cn))) Tryz.func13 [] (fun z a=>I9 z.1 z.2.1 z.2.2.1 a) fun _ _=>by kernel_rfl
abbrev N7:=SThing→Option Bool
def SAF (z0:Td) (a:SThing):Option Bool:=(z0 a.fId 1 1000).bind fun r0=>cond (!r0) (some false) ((z0 a.fKind 1 3).bind fun r1=>cond (!r1) (some false) ((z0 a.fNext 0 16).bind fun r2=>cond (!r2) (some false) (cond (a.fKind != 2) (cond (a.fNext != 0) (some false) (cond a.fSigns (some false) (cond (a.fKind != 1) (cond a.fWraps (some false) (cond (a.fKind == 3) (some (decide ((a.fValue.size:Int)≤100))) (some ((a.fValue.size:Int) == 32)))) (cond (a.fKind == 3) (some (decide ((a.fValue.size:Int)≤100))) (some ((a.fValue.size:Int) == 32)))))) (cond (a.fKind != 1) (cond a.fWraps (some false) (cond (a.fKind == 3) (some (decide ((a.fValue.size:Int)≤100))) (some ((a.fValue.size:Int) == 32)))) (cond (a.fKind == 3) (some (decide ((a.fValue.size:Int)≤100))) (some ((a.fValue.size:Int) == 32)))))))
def Io:N7:=SAF Xc
theorem EAE:Tells ctx PP 14 cv2 cv4 (fun a=>Io a):=fz0 (cc3 Wi cn) Tryz.func14 [] (fun z a=>SAF z.1 a) fun _ _=>by kernel_rfl
abbrev OAP:=Bool→Int→Option Int
def PAP (a:Bool) (b:Int):Option Int:=cond a (some b) (some 0)
def TAF:OAP:=PAP
theorem XAX:Tells ctx PP 72 cv65 cv1 (fun a=>TAF a.1 a.2):=fz0 cn Tryz.func72 [] (fun _ a=>PAP a.1 a.2) fun _ _=>by kernel_rfl
abbrev Aw:=Int→Option ByteArray
inductive Dw where
 | c0 (a:Int) (b:(List Int))
def YAX:Dw→LI
 | .c0 a b=>(tdo Tryz.f73 224,[vi 0 a,vo 3 240],[(240,.sl 5 b)])
def QAP (k:Dw→Option ByteArray) (a:Int):Option ByteArray:=k (.c0 a [])
def J9 (k:Dw→Option ByteArray):Dw→Option ByteArray
 | .c0 a b=>cond (a > 127) (cond (((b.length+1)*1)≤140737488355328) (k (.c0 (w64 (a.tdiv 128)) (b++[w8 (w64 ((a.tmod 128)+128))]))) none) (cond (((b.length+1)*1)≤140737488355328) (some (ofBytes (b++[w8 a]))) none)
def Ip:Nat→Dw→Option ByteArray
 | 0,_=>none
 | m+1,s=>J9 (Ip m) s
def Jp:Aw:=QAP (Ip gas)
theorem UAF:Tells ctx PP 73 cv1 cv8 (fun a=>Jp a):=fz cn Tryz.func73 [] YAX (fun _=>J9) (fun _ k a=>QAP k a) Ip gas (fun s s' h=>by cases s;cases s';cases h;rfl) (fun _ _ s=>by cases s <;> kernel_rfl) fun _ _ _=>by kernel_rfl
abbrev Rf:=Int→Option ByteArray
def VAF (a:Int):Option ByteArray:=cond ((a.tmod 256)<0) (some (ofBytes [w8 (w64 ((a.tmod 256)+256))])) (some (ofBytes [w8 (a.tmod 256)]))
def Tc:Rf:=VAF
theorem Np:Tells ctx PP 74 cv1 cv8 (fun a=>Tc a):=fz0 cn Tryz.func74 [] (fun _ a=>VAF a) fun _ _=>by kernel_rfl
abbrev RAP:=ByteArray→Option ByteArray
def WAF (z0:Aw) (a:ByteArray):Option ByteArray:=(z0 (a.size:Int)).bind fun r0=>cond ((r0.size+a.size)≤9223372036854775807) (some (r0++a)) none
def L9:RAP:=WAF Jp
theorem ZAX:Tells ctx PP 75 cv8 cv8 (fun a=>L9 a):=fz0 (cc1 UAF cn) Tryz.func75 [] (fun z a=>WAF z.1 a) fun _ _=>by kernel_rfl
abbrev XAF:=SThing→Option (ByteArray×Bool)
def YAF (z0:N7) (z1:OAP) (z2:Aw) (z3:Rf) (z4:RAP) (a:SThing):Option (ByteArray×Bool):=(z0 a).bind fun r0=>cond (!r0) (some (⟨#[]⟩,false)) ((z1 a.fHidden 1).bind fun r1=>(z1 a.fFixed 2).bind fun r2=>(z1 a.fSigns 4).bind fun r3=>(z1 a.fWraps 8).bind fun r4=>(z2 a.fId).bind fun r5=>(z3 a.fKind).bind fun r6=>cond ((r5.size+r6.size)≤9223372036854775807) ((z3 (w64 ((w64 ((w64 (r1+r2))+r3))+r4))).bind fun r7=>cond (((r5++r6).size+r7.size)≤9223372036854775807) ((z4 a.fValue).bind fun r8=>cond ((((r5++r6)++r7).size+r8.size)≤9223372036854775807) ((z2 a.fNext).bind fun r9=>cond (((((r5++r6)++r7)++r8).size+r9.size)≤9223372036854775807) (some ((((r5++r6)++r7)++r8)++r9,true)) none) none) none) none)
def Ew:XAF:=YAF Io TAF Jp Tc L9
theorem SAP:Tells ctx PP 37 cv2 cv28 (fun a=>Ew a):=fz0 (cc1 EAE (cc2 XAX (cc1 UAF (cc1 Np (cc1 ZAX cn))))) Tryz.func37 [] (fun z a=>YAF z.1 z.2.1 z.2.2.1 z.2.2.2.1 z.2.2.2.2.1 a) fun _ _=>by kernel_rfl
abbrev TAP:=SL01Cur→ByteArray→Option (ByteArray×SL01Cur)
def ZAF (z0:Dl) (z1:OAE) (b:SL01Cur) (a:ByteArray):Option (ByteArray×SL01Cur):=(z0 ⟨(),b.fI,b.fH⟩ 12).bind fun r0=>cond (r0.1 == 0) ((z1 ⟨(),r0.2.fI,r0.2.fH⟩ 1).bind fun r1=>cond ((a.size+r1.1.size)≤9223372036854775807) (some (a++r1.1,⟨(),r1.2.fI,r1.2.fH⟩)) none) (cond (r0.1 == 1) ((z0 ⟨(),r0.2.fI,r0.2.fH⟩ (w64 ((a.size:Int)+1))).bind fun r2=>cond (0≤r2.1&&r2.1≤(a.size:Int)) (some (a.extract 0 r2.1.toNat,⟨(),r2.2.fI,r2.2.fH⟩)) none) (cond (r0.1 == 2) (cond (r0.1 == 2) (cond ((a.size:Int) > 0) ((z0 ⟨(),r0.2.fI,r0.2.fH⟩ (a.size:Int)).bind fun r3=>cond (0≤r3.1&&r3.1≤(a.size:Int)) ((z1 ⟨(),r3.2.fI,r3.2.fH⟩ 1).bind fun r4=>cond (((a.extract 0 r3.1.toNat).size+r4.1.size)≤9223372036854775807) (cond (0≤(w64 (r3.1+1))&&(w64 (r3.1+1))≤(a.size:Int)) (cond ((((a.extract 0 r3.1.toNat)++r4.1).size+(a.extract (w64 (r3.1+1)).toNat a.size).size)≤9223372036854775807) (some (((a.extract 0 r3.1.toNat)++r4.1)++(a.extract (w64 (r3.1+1)).toNat a.size),⟨(),r4.2.fI,r4.2.fH⟩)) none) none) none) none) (some (a,⟨(),r0.2.fI,r0.2.fH⟩))) (some (a,⟨(),r0.2.fI,r0.2.fH⟩))) (cond (r0.1 == 3) (cond ((a.size:Int) > 0) ((z0 ⟨(),r0.2.fI,r0.2.fH⟩ (a.size:Int)).bind fun r5=>cond (0≤r5.1&&r5.1≤(a.size:Int)) ((z1 ⟨(),r5.2.fI,r5.2.fH⟩ 1).bind fun r6=>cond (((a.extract 0 r5.1.toNat).size+r6.1.size)≤9223372036854775807) (cond (0≤(w64 (r5.1+1))&&(w64 (r5.1+1))≤(a.size:Int)) (cond ((((a.extract 0 r5.1.toNat)++r6.1).size+(a.extract (w64 (r5.1+1)).toNat a.size).size)≤9223372036854775807) (some (((a.extract 0 r5.1.toNat)++r6.1)++(a.extract (w64 (r5.1+1)).toNat a.size),⟨(),r6.2.fI,r6.2.fH⟩)) none) none) none) none) (some (a,⟨(),r0.2.fI,r0.2.fH⟩))) (some (a,⟨(),r0.2.fI,r0.2.fH⟩)))))
def N9:TAP:=ZAF Rh Zu
theorem AAY:Tells ctx PP 38 cv66 cv55 (fun a=>N9 a.1 a.2):=fz0 (cc2 Po (cc2 JAO cn)) Tryz.func38 [0] (fun z a=>ZAF z.1 z.2.1 a.1 a.2) fun _ _=>by kernel_rfl
abbrev BAO:=Unit→Option ByteArray
def AAG (z0:JAE) (z1:IAF) (z2:XAF) (z3:TAP) (a:Unit):Option ByteArray:=(z0 ()).bind fun r0=>(z1 ⟨(),r0.fI,r0.fH⟩).bind fun r1=>(z2 r1.1).bind fun r2=>(z3 ⟨(),r1.2.fI,r1.2.fH⟩ r2.1).bind fun r3=>some r3.1
def V7:BAO:=AAG Xu Wv Ew N9
theorem SAW:Tells ctx PP 16 cv49 cv8 (fun a=>V7 a):=fz0 (cc1 GAO (cc1 BAP (cc1 SAP (cc2 AAY cn)))) Tryz.func16 [] (fun z a=>AAG z.1 z.2.1 z.2.2.1 z.2.2.2.1 a) fun _ _=>by kernel_rfl
abbrev UAP:=ByteArray→Int→Option (Int×Int×Bool)
inductive Gw where
 | c0 (a:ByteArray) (b d:Int) (e f:Int)
def BAY:Gw→LI
 | .c0 a b d e f=>(tdo Tryz.f77 2000,[vs 0 a,vi 1 b,vi 7 d,vi 8 e,vi 9 f],[])
def O9 (z0:Td) (z1:Aw) (k:Gw→Option (Int×Int×Bool)) (b:ByteArray) (a:Int):Option (Int×Int×Bool):=(z0 a 0 (b.size:Int)).bind fun r0=>cond (!r0) (some (0,0,false)) (k (.c0 b a 0 1 a))
def P9 (z0:Td) (z1:Aw) (k:Gw→Option (Int×Int×Bool)):Gw→Option (Int×Int×Bool)
 | .c0 b d f e a=>cond (a<(b.size:Int)) (cond (a<(w64 (d+5))) (cond (0≤a&&a<(b.size:Int)) (cond (0≤a&&a<(b.size:Int)) (cond ((bt b a)<128) (cond ((w64 (f+(w64 (((w64 (bt b a)).tmod 128)*e)))) > 1000000000) (some (0,0,false)) ((z1 (w64 (f+(w64 (((w64 (bt b a)).tmod 128)*e))))).bind fun r0=>cond (((decide (0≤d)) && (decide (d≤(w64 (a+1))))) && (decide ((w64 (a+1))≤(b.size:Int)))) (cond (!((ByteArray.toList r0) == (ByteArray.toList (b.extract d.toNat (w64 (a+1)).toNat)))) (some (0,0,false)) (some (w64 (f+(w64 (((w64 (bt b a)).tmod 128)*e))),w64 (a+1),true))) none)) (k (.c0 b d (w64 (f+(w64 (((w64 (bt b a)).tmod 128)*e)))) (w64 (e*128)) (w64 (a+1))))) none) none) (some (0,0,false))) (some (0,0,false))
def Jg:Nat→Gw→Option (Int×Int×Bool)
 | 0,_=>none
 | m+1,s=>P9 Xc Jp (Jg m) s
def Qp:UAP:=O9 Xc Jp (Jg gas)
theorem CAY:Tells ctx PP 77 cv10 cv60 (fun a=>Qp a.1 a.2):=fz (cc3 Wi (cc1 UAF cn)) Tryz.func77 [] BAY (fun z=>P9 z.1 z.2.1) (fun z k a=>O9 z.1 z.2.1 k a.1 a.2) Jg gas (fun s s' h=>by cases s;cases s';cases h;rfl) (fun _ _ s=>by cases s <;> kernel_rfl) fun _ _ _=>by kernel_rfl
abbrev BAG:=SL19Cur→Option (Int×SL19Cur)
def Q9 (z0:UAP) (a:SL19Cur):Option (Int×SL19Cur):=(z0 a.fText a.fAt).bind fun r0=>cond a.fBad (some (0,⟨a.fText,a.fAt,true⟩)) (cond (!r0.2.2) (some (0,⟨a.fText,a.fAt,true⟩)) (some (r0.1,⟨a.fText,r0.2.1,a.fBad⟩)))
def Ol:BAG:=Q9 Qp
theorem VAP:Tells ctx PP 39 cv67 cv68 (fun a=>Ol a):=fz0 (cc2 CAY cn) Tryz.func39 [0] (fun z a=>Q9 z.1 a) fun _ _=>by kernel_rfl
abbrev CAG:=SL19Cur→Int→Option (ByteArray×SL19Cur)
def S9 (a:SL19Cur) (b:Int):Option (ByteArray×SL19Cur):=cond a.fBad (some (⟨#[]⟩,⟨a.fText,a.fAt,true⟩)) (cond (b > (w64 ((a.fText.size:Int) - a.fAt))) (some (⟨#[]⟩,⟨a.fText,a.fAt,true⟩)) (cond (((decide (0≤(w64 ((w64 (a.fAt+b)) - b)))) && (decide ((w64 ((w64 (a.fAt+b)) - b))≤(w64 (a.fAt+b))))) && (decide ((w64 (a.fAt+b))≤(a.fText.size:Int)))) (some (a.fText.extract (w64 ((w64 (a.fAt+b)) - b)).toNat (w64 (a.fAt+b)).toNat,⟨a.fText,w64 (a.fAt+b),a.fBad⟩)) none))
def Xi:CAG:=S9
theorem WAP:Tells ctx PP 78 cv69 cv70 (fun a=>Xi a.1 a.2):=fz0 cn Tryz.func78 [0] (fun _ a=>S9 a.1 a.2) fun _ _=>by kernel_rfl
abbrev XAP:=SL19Cur→Option (Int×SL19Cur)
def U9 (z0:CAG) (a:SL19Cur):Option (Int×SL19Cur):=(z0 a 1).bind fun r0=>cond r0.2.fBad (some (0,r0.2)) (cond (0≤(0:Int)&&0<(r0.1.size:Int)) (some (w64 (bt r0.1 0),r0.2)) none)
def Vp:XAP:=U9 Xi
theorem EAY:Tells ctx PP 40 cv67 cv68 (fun a=>Vp a):=fz0 (cc2 WAP cn) Tryz.func40 [0] (fun z a=>U9 z.1 a) fun _ _=>by kernel_rfl
abbrev YAP:=SL19Cur→Option (ByteArray×SL19Cur)
def V9 (z0:BAG) (z1:CAG) (a:SL19Cur):Option (ByteArray×SL19Cur):=(z0 a).bind fun r0=>(z1 r0.2 r0.1).bind fun r1=>some (r1.1,r1.2)
def Wp:YAP:=V9 Ol Xi
theorem FAY:Tells ctx PP 41 cv67 cv70 (fun a=>Wp a):=fz0 (cc1 VAP (cc2 WAP cn)) Tryz.func41 [0] (fun z a=>V9 z.1 z.2.1 a) fun _ _=>by kernel_rfl
abbrev CAO:=ByteArray→Option (SThing×Bool)
def W9 (z0:BAG) (z1:XAP) (z2:YAP) (z3:XAF) (a:ByteArray):Option (SThing×Bool):=(z0 ⟨a,0,false⟩).bind fun r0=>(z1 r0.2).bind fun r1=>(z1 r1.2).bind fun r2=>(z2 r2.2).bind fun r3=>(z0 r3.2).bind fun r4=>(z3 ⟨r0.1,r1.1,(r2.1.tmod 2) == 1,((w64 (r2.1.tdiv 2)).tmod 2) == 1,((w64 (r2.1.tdiv 4)).tmod 2) == 1,((w64 (r2.1.tdiv 8)).tmod 2) == 1,r3.1,r4.1⟩).bind fun r5=>cond r4.2.fBad (some (⟨0,0,false,false,false,false,⟨#[]⟩,0⟩,false)) (cond (!r5.2) (some (⟨0,0,false,false,false,false,⟨#[]⟩,0⟩,false)) (cond (!((ByteArray.toList r5.1) == (ByteArray.toList a))) (some (⟨0,0,false,false,false,false,⟨#[]⟩,0⟩,false)) (some (⟨r0.1,r1.1,(r2.1.tmod 2) == 1,((w64 (r2.1.tdiv 2)).tmod 2) == 1,((w64 (r2.1.tdiv 4)).tmod 2) == 1,((w64 (r2.1.tdiv 8)).tmod 2) == 1,r3.1,r4.1⟩,true))))
def Bl:CAO:=W9 Ol Vp Wp Ew
theorem TAW:Tells ctx PP 17 cv8 cv64 (fun a=>Bl a):=fz0 (cc1 VAP (cc1 EAY (cc1 FAY (cc1 SAP cn)))) Tryz.func17 [] (fun z a=>W9 z.1 z.2.1 z.2.2.1 z.2.2.2.1 a) fun _ _=>by kernel_rfl
abbrev ZAP:=Option (List Int)
def AAQ  : Option (List Int):=some [1779033703,3144134277,1013904242,2773480762,1359893119,2600822924,528734635,1541459225]
def EAG:ZAP:=AAQ
theorem GAY:Tells ctx PP 89 cv5 cv41 (fun _=>EAG):=fz0 cn Tryz.func89 [] (fun _ _=>AAQ) fun _ _=>by kernel_rfl
abbrev BAQ:=Int→Option ByteArray
def FAG (a:Int):Option ByteArray:=cond ((((decide (0≤a)) && (decide (a≤a))) && (decide (a≤9223372036854775807))) && (decide ((a.toNat*1)≤140737488355328))) (some (ofBytes (List.replicate a.toNat (0:Int)))) none
def X9:BAQ:=FAG
theorem HAY:Tells ctx PP 121 cv1 cv8 (fun a=>X9 a):=fz0 cn Tryz.func121 [] (fun _ a=>FAG a) fun _ _=>by kernel_rfl
abbrev Y9:=Int→Option ByteArray
def GAG (a:Int):Option ByteArray:=some (ofBytes [w8 (Int.fdiv a (2 ^ (Min.min (24:Int).toNat (IntKind.bits .u32)))),w8 (Int.fdiv a (2 ^ (Min.min (16:Int).toNat (IntKind.bits .u32)))),w8 (Int.fdiv a (2 ^ (Min.min (8:Int).toNat (IntKind.bits .u32)))),w8 a])
def Xp:Y9:=GAG
theorem CAQ:Tells ctx PP 127 cv11 cv8 (fun a=>Xp a):=fz0 cn Tryz.func127 [] (fun _ a=>GAG a) fun _ _=>by kernel_rfl
abbrev DAQ:=Int→Option ByteArray
def HAG (z0:Y9) (a:Int):Option ByteArray:=(z0 (w32 (Int.fdiv a (2 ^ (Min.min (32:Int).toNat (IntKind.bits .i64)))))).bind fun r0=>(z0 (w32 a)).bind fun r1=>cond ((r0.size+r1.size)≤9223372036854775807) (some (r0++r1)) none
def Z9:DAQ:=HAG Xp
theorem IAY:Tells ctx PP 126 cv1 cv8 (fun a=>Z9 a):=fz0 (cc1 CAQ cn) Tryz.func126 [] (fun z a=>HAG z.1 a) fun _ _=>by kernel_rfl
abbrev EAQ:=Int→Option ByteArray
def IAG (z0:BAQ) (z1:DAQ) (a:Int):Option ByteArray:=(z0 ((w64 (119 - (a.tmod 64))).tmod 64)).bind fun r0=>cond (((⟨#[128]⟩:ByteArray).size+r0.size)≤9223372036854775807) ((z1 (w64 (8*a))).bind fun r1=>cond ((((⟨#[128]⟩:ByteArray)++r0).size+r1.size)≤9223372036854775807) (some (((⟨#[128]⟩:ByteArray)++r0)++r1)) none) none
def AAA:EAQ:=IAG X9 Z9
theorem JAY:Tells ctx PP 90 cv1 cv8 (fun a=>AAA a):=fz0 (cc1 HAY (cc1 IAY cn)) Tryz.func90 [] (fun z a=>IAG z.1 z.2.1 a) fun _ _=>by kernel_rfl
abbrev FAQ:=Int→Int→Option Int
def JAG (b:Int) (a:Int):Option Int:=cond (0≤(wu64 (32 - (wu64 (((BitVec.toNat ((BitVec.ofInt (IntKind.bits .u64) (wu64 a)) &&& (BitVec.ofInt (IntKind.bits .u64) 31))):Nat):Int))))) (some (w32 (((BitVec.toNat ((BitVec.ofInt (IntKind.bits .u32) (w32 (b*(2 ^ (Min.min (wu64 (((BitVec.toNat ((BitVec.ofInt (IntKind.bits .u64) (wu64 a)) &&& (BitVec.ofInt (IntKind.bits .u64) 31))):Nat):Int)).toNat (IntKind.bits .u32)))))) ||| (BitVec.ofInt (IntKind.bits .u32) (Int.fdiv b (2 ^ (Min.min (wu64 (32 - (wu64 (((BitVec.toNat ((BitVec.ofInt (IntKind.bits .u64) (wu64 a)) &&& (BitVec.ofInt (IntKind.bits .u64) 31))):Nat):Int)))).toNat (IntKind.bits .u32))))))):Nat):Int))) none
def BAA:FAQ:=JAG
theorem KAY:Tells ctx PP 212 cv42 cv11 (fun a=>BAA a.1 a.2):=fz0 cn Tryz.func212 [] (fun _ a=>JAG a.1 a.2) fun _ _=>by kernel_rfl
abbrev Hw:=Int→Int→Option Int
def KAG (z0:FAQ) (a:Int) (b:Int):Option Int:=(z0 a (w64 (0 - b))).bind fun r0=>some r0
def Ic:Hw:=KAG BAA
theorem GAQ:Tells ctx PP 172 cv42 cv11 (fun a=>Ic a.1 a.2):=fz0 (cc2 KAY cn) Tryz.func172 [] (fun z a=>KAG z.1 a.1 a.2) fun _ _=>by kernel_rfl
abbrev LAG:=ByteArray→Option (List Int)
inductive Iw where
 | c0 (d:ByteArray) (e:Int) (a b:(List Int))
 | c1 (d:ByteArray) (f e g:Int) (a b:(List Int))
 | c2 (h:Int) (a b:(List Int))
def NAY:Iw→LI
 | .c0 d e a b=>(tdo Tryz.f171 232,[vs 0 d,vp 2 128,vp 3 192,vi 11 e],[(128,.ar 133 a),(192,.ar 133 b)])
 | .c1 d f e g a b=>(tdo Tryz.f171 59800,[vs 0 d,vp 2 128,vp 3 192,vi 4 f,vi 11 e,vi 14 g],[(128,.ar 133 a),(192,.ar 133 b)])
 | .c2 h a b=>(tdo Tryz.f171 976,[vp 2 128,vp 3 192,vi 6 h],[(128,.ar 133 a),(192,.ar 133 b)])
def MAG (z0:Hw) (k:Iw→Option (List Int)) (a:ByteArray):Option (List Int):=k (.c0 a 0 (List.replicate 64 (0:Int)) (List.replicate 64 (0:Int)))
def Yi (z0:Hw) (k:Iw→Option (List Int)):Iw→Option (List Int)
 | .c0 f g e a=>cond (g<16) (k (.c1 f g g 0 e a)) (k (.c2 16 e a))
 | .c1 f d g h e a=>cond (h<4) (cond (Nat.beq 64 a.length) (cond (0≤d&&d<(a.length:Int)) (cond (0≤(w64 ((w64 (4*d))+h))&&(w64 ((w64 (4*d))+h))<(f.size:Int)) (cond (Nat.beq 64 a.length) (cond (0≤d&&d<(a.length:Int)) (k (.c1 f d g (w64 (h+1)) e (a.set d.toNat (w32 (((BitVec.toNat ((BitVec.ofInt (IntKind.bits .u32) (w32 ((a.getD d.toNat 0)*(2 ^ (Min.min (8:Int).toNat (IntKind.bits .u32)))))) ||| (BitVec.ofInt (IntKind.bits .u32) (w32 (bt f (w64 ((w64 (4*d))+h))))))):Nat):Int))))) none) none) none) none) none) (k (.c0 f (w64 (g+1)) e a))
 | .c2 b e a=>cond (b<64) (cond (Nat.beq 64 a.length) (cond (0≤(w64 (b - 15))&&(w64 (b - 15))<(a.length:Int)) (cond (Nat.beq 64 a.length) (cond (0≤(w64 (b - 2))&&(w64 (b - 2))<(a.length:Int)) ((z0 (a.getD (w64 (b - 15)).toNat 0) 7).bind fun r0=>(z0 (a.getD (w64 (b - 15)).toNat 0) 18).bind fun r1=>(z0 (a.getD (w64 (b - 2)).toNat 0) 17).bind fun r2=>(z0 (a.getD (w64 (b - 2)).toNat 0) 19).bind fun r3=>cond (Nat.beq 64 a.length) (cond (0≤(w64 (b - 7))&&(w64 (b - 7))<(a.length:Int)) (cond (Nat.beq 64 a.length) (cond (0≤(w64 (b - 16))&&(w64 (b - 16))<(a.length:Int)) (cond (Nat.beq 64 a.length) (cond (0≤b&&b<(a.length:Int)) (k (.c2 (w64 (b+1)) e (a.set b.toNat (w32 ((w32 ((w32 ((w32 (((BitVec.toNat ((BitVec.ofInt (IntKind.bits .u32) (w32 (((BitVec.toNat ((BitVec.ofInt (IntKind.bits .u32) r2) ^^^ (BitVec.ofInt (IntKind.bits .u32) r3))):Nat):Int))) ^^^ (BitVec.ofInt (IntKind.bits .u32) (Int.fdiv (a.getD (w64 (b - 2)).toNat 0) (2 ^ (Min.min (10:Int).toNat (IntKind.bits .u32))))))):Nat):Int))+(a.getD (w64 (b - 7)).toNat 0)))+(w32 (((BitVec.toNat ((BitVec.ofInt (IntKind.bits .u32) (w32 (((BitVec.toNat ((BitVec.ofInt (IntKind.bits .u32) r0) ^^^ (BitVec.ofInt (IntKind.bits .u32) r1))):Nat):Int))) ^^^ (BitVec.ofInt (IntKind.bits .u32) (Int.fdiv (a.getD (w64 (b - 15)).toNat 0) (2 ^ (Min.min (3:Int).toNat (IntKind.bits .u32))))))):Nat):Int))))+(a.getD (w64 (b - 16)).toNat 0)))))) none) none) none) none) none) none) none) none) none) none) (cond (Nat.beq 64 a.length) (cond ((Nat.beq a.length e.length) && (Nat.beq 64 a.length)) (cond ((Nat.beq 64 a.length) && true) (some a) none) none) none)
def Ud:Nat→Iw→Option (List Int)
 | 0,_=>none
 | m+1,s=>Yi Ic (Ud m) s
def Jw:LAG:=MAG Ic (Ud gas)
theorem OAY:Tells ctx PP 171 cv8 cv41 (fun a=>Jw a):=fz (cc2 GAQ cn) Tryz.func171 [] NAY (fun z=>Yi z.1) (fun z k a=>MAG z.1 k a) Ud gas (fun s s' h=>by cases s <;> cases s' <;> first | (cases h;done) | (cases h;rfl) | exact (rg_ne h (by kernel_rfl)).elim) (fun _ _ s=>by cases s <;> kernel_rfl) fun _ _ _=>by kernel_rfl
abbrev NAG:=(List Int)→ByteArray→Option (List Int)
inductive Kw where
 | c0 (d e:Int) (f g:Int) (h i:Int) (j n o:Int) (a b p:(List Int))
 | c1 (q:Int) (a b t:(List Int))
def QAY:Kw→LI
 | .c0 d e f g h i j n o a b p=>(tdo Tryz.f125 488,[vp 2 128,vp 4 256,vp 5 320,(6,[.one (.int .u32 d)]),(7,[.one (.int .u32 e)]),(8,[.one (.int .u32 f)]),(9,[.one (.int .u32 g)]),(10,[.one (.int .u32 h)]),(11,[.one (.int .u32 i)]),(12,[.one (.int .u32 j)]),(13,[.one (.int .u32 n)]),vi 37 o],[(128,.ar 133 a),(256,.ar 133 b),(320,.ar 133 p)])
 | .c1 q a b t=>(tdo Tryz.f125 2024,[vp 2 128,vp 4 256,vp 17 1088,vi 109 q],[(128,.ar 133 a),(256,.ar 133 b),(1088,.ar 133 t)])
def OAG (z0:LAG) (z1:Hw) (k:Kw→Option (List Int)) (a:(List Int)) (b:ByteArray):Option (List Int):=(z0 b).bind fun r0=>cond ((Nat.beq r0.length (List.replicate 64 (0:Int)).length) && (Nat.beq 64 r0.length)) (cond (Nat.beq 8 a.length) (cond (0≤(0:Int)&&0<(a.length:Int)) (cond (Nat.beq 8 a.length) (cond (0≤(1:Int)&&1<(a.length:Int)) (cond (Nat.beq 8 a.length) (cond (0≤(2:Int)&&2<(a.length:Int)) (cond (Nat.beq 8 a.length) (cond (0≤(3:Int)&&3<(a.length:Int)) (cond (Nat.beq 8 a.length) (cond (0≤(4:Int)&&4<(a.length:Int)) (cond (Nat.beq 8 a.length) (cond (0≤(5:Int)&&5<(a.length:Int)) (cond (Nat.beq 8 a.length) (cond (0≤(6:Int)&&6<(a.length:Int)) (cond (Nat.beq 8 a.length) (cond (0≤(7:Int)&&7<(a.length:Int)) (k (.c0 (a.getD (0:Int).toNat 0) (a.getD (1:Int).toNat 0) (a.getD (2:Int).toNat 0) (a.getD (3:Int).toNat 0) (a.getD (4:Int).toNat 0) (a.getD (5:Int).toNat 0) (a.getD (6:Int).toNat 0) (a.getD (7:Int).toNat 0) 0 a [0,0,0,0,0,0,0,0] r0)) none) none) none) none) none) none) none) none) none) none) none) none) none) none) none) none) none
def Yp (z0:LAG) (z1:Hw) (k:Kw→Option (List Int)):Kw→Option (List Int)
 | .c0 f j n t e o p q a g h i=>cond (a<64) ((z1 e 6).bind fun r0=>(z1 e 11).bind fun r1=>(z1 e 25).bind fun r2=>cond (0≤a&&a<((64:Nat):Int)) (cond (Nat.blt a.toNat 64) (cond (Nat.beq 64 i.length) (cond (0≤a&&a<(i.length:Int)) ((z1 f 2).bind fun r3=>(z1 f 13).bind fun r4=>(z1 f 22).bind fun r5=>k (.c0 (w32 ((w32 ((w32 ((w32 ((w32 (q+(w32 (((BitVec.toNat ((BitVec.ofInt (IntKind.bits .u32) (w32 (((BitVec.toNat ((BitVec.ofInt (IntKind.bits .u32) r0) ^^^ (BitVec.ofInt (IntKind.bits .u32) r1))):Nat):Int))) ^^^ (BitVec.ofInt (IntKind.bits .u32) r2))):Nat):Int))))+(w32 (((BitVec.toNat ((BitVec.ofInt (IntKind.bits .u32) (w32 (((BitVec.toNat ((BitVec.ofInt (IntKind.bits .u32) e) &&& (BitVec.ofInt (IntKind.bits .u32) o))):Nat):Int))) ^^^ (BitVec.ofInt (IntKind.bits .u32) (w32 (((BitVec.toNat ((BitVec.ofInt (IntKind.bits .u32) (w32 (((BitVec.toNat ((BitVec.ofInt (IntKind.bits .u32) (ite ((IntKind.signed IntKind.u32)=true) (-(1:Int)) (IntKind.max IntKind.u32))) ^^^ (BitVec.ofInt (IntKind.bits .u32) e))):Nat):Int))) &&& (BitVec.ofInt (IntKind.bits .u32) p))):Nat):Int))))):Nat):Int))))+([(1116352408:Int),(1899447441:Int),(3049323471:Int),(3921009573:Int),(961987163:Int),(1508970993:Int),(2453635748:Int),(2870763221:Int),(3624381080:Int),(310598401:Int),(607225278:Int),(1426881987:Int),(1925078388:Int),(2162078206:Int),(2614888103:Int),(3248222580:Int),(3835390401:Int),(4022224774:Int),(264347078:Int),(604807628:Int),(770255983:Int),(1249150122:Int),(1555081692:Int),(1996064986:Int),(2554220882:Int),(2821834349:Int),(2952996808:Int),(3210313671:Int),(3336571891:Int),(3584528711:Int),(113926993:Int),(338241895:Int),(666307205:Int),(773529912:Int),(1294757372:Int),(1396182291:Int),(1695183700:Int),(1986661051:Int),(2177026350:Int),(2456956037:Int),(2730485921:Int),(2820302411:Int),(3259730800:Int),(3345764771:Int),(3516065817:Int),(3600352804:Int),(4094571909:Int),(275423344:Int),(430227734:Int),(506948616:Int),(659060556:Int),(883997877:Int),(958139571:Int),(1322822218:Int),(1537002063:Int),(1747873779:Int),(1955562222:Int),(2024104815:Int),(2227730452:Int),(2361852424:Int),(2428436474:Int),(2756734187:Int),(3204031479:Int),(3329325298:Int)].getD a.toNat 0)))+(i.getD a.toNat 0)))+(w32 ((w32 (((BitVec.toNat ((BitVec.ofInt (IntKind.bits .u32) (w32 (((BitVec.toNat ((BitVec.ofInt (IntKind.bits .u32) r3) ^^^ (BitVec.ofInt (IntKind.bits .u32) r4))):Nat):Int))) ^^^ (BitVec.ofInt (IntKind.bits .u32) r5))):Nat):Int))+(w32 (((BitVec.toNat ((BitVec.ofInt (IntKind.bits .u32) (w32 (((BitVec.toNat ((BitVec.ofInt (IntKind.bits .u32) (w32 (((BitVec.toNat ((BitVec.ofInt (IntKind.bits .u32) f) &&& (BitVec.ofInt (IntKind.bits .u32) j))):Nat):Int))) ^^^ (BitVec.ofInt (IntKind.bits .u32) (w32 (((BitVec.toNat ((BitVec.ofInt (IntKind.bits .u32) f) &&& (BitVec.ofInt (IntKind.bits .u32) n))):Nat):Int))))):Nat):Int))) ^^^ (BitVec.ofInt (IntKind.bits .u32) (w32 (((BitVec.toNat ((BitVec.ofInt (IntKind.bits .u32) j) &&& (BitVec.ofInt (IntKind.bits .u32) n))):Nat):Int))))):Nat):Int)))))) f j n (w32 (t+(w32 ((w32 ((w32 ((w32 (q+(w32 (((BitVec.toNat ((BitVec.ofInt (IntKind.bits .u32) (w32 (((BitVec.toNat ((BitVec.ofInt (IntKind.bits .u32) r0) ^^^ (BitVec.ofInt (IntKind.bits .u32) r1))):Nat):Int))) ^^^ (BitVec.ofInt (IntKind.bits .u32) r2))):Nat):Int))))+(w32 (((BitVec.toNat ((BitVec.ofInt (IntKind.bits .u32) (w32 (((BitVec.toNat ((BitVec.ofInt (IntKind.bits .u32) e) &&& (BitVec.ofInt (IntKind.bits .u32) o))):Nat):Int))) ^^^ (BitVec.ofInt (IntKind.bits .u32) (w32 (((BitVec.toNat ((BitVec.ofInt (IntKind.bits .u32) (w32 (((BitVec.toNat ((BitVec.ofInt (IntKind.bits .u32) (ite ((IntKind.signed IntKind.u32)=true) (-(1:Int)) (IntKind.max IntKind.u32))) ^^^ (BitVec.ofInt (IntKind.bits .u32) e))):Nat):Int))) &&& (BitVec.ofInt (IntKind.bits .u32) p))):Nat):Int))))):Nat):Int))))+([(1116352408:Int),(1899447441:Int),(3049323471:Int),(3921009573:Int),(961987163:Int),(1508970993:Int),(2453635748:Int),(2870763221:Int),(3624381080:Int),(310598401:Int),(607225278:Int),(1426881987:Int),(1925078388:Int),(2162078206:Int),(2614888103:Int),(3248222580:Int),(3835390401:Int),(4022224774:Int),(264347078:Int),(604807628:Int),(770255983:Int),(1249150122:Int),(1555081692:Int),(1996064986:Int),(2554220882:Int),(2821834349:Int),(2952996808:Int),(3210313671:Int),(3336571891:Int),(3584528711:Int),(113926993:Int),(338241895:Int),(666307205:Int),(773529912:Int),(1294757372:Int),(1396182291:Int),(1695183700:Int),(1986661051:Int),(2177026350:Int),(2456956037:Int),(2730485921:Int),(2820302411:Int),(3259730800:Int),(3345764771:Int),(3516065817:Int),(3600352804:Int),(4094571909:Int),(275423344:Int),(430227734:Int),(506948616:Int),(659060556:Int),(883997877:Int),(958139571:Int),(1322822218:Int),(1537002063:Int),(1747873779:Int),(1955562222:Int),(2024104815:Int),(2227730452:Int),(2361852424:Int),(2428436474:Int),(2756734187:Int),(3204031479:Int),(3329325298:Int)].getD a.toNat 0)))+(i.getD a.toNat 0))))) e o p (w64 (a+1)) g h i)) none) none) none) none) (k (.c1 0 g h [f,j,n,t,e,o,p,q]))
 | .c1 b g h d=>cond (b<8) (cond (Nat.beq 8 d.length) (cond (0≤b&&b<(d.length:Int)) (cond (Nat.beq 8 g.length) (cond (0≤b&&b<(g.length:Int)) (cond (Nat.beq 8 d.length) (cond (0≤b&&b<(d.length:Int)) (k (.c1 (w64 (b+1)) g h (d.set b.toNat (w32 ((d.getD b.toNat 0)+(g.getD b.toNat 0)))))) none) none) none) none) none) none) (cond (Nat.beq 8 d.length) (cond ((Nat.beq d.length h.length) && (Nat.beq 8 d.length)) (cond ((Nat.beq 8 d.length) && true) (some d) none) none) none)
def Oe:Nat→Kw→Option (List Int)
 | 0,_=>none
 | m+1,s=>Yp Jw Ic (Oe m) s
def Nw:NAG:=OAG Jw Ic (Oe gas)
theorem RAY:Tells ctx PP 125 cv43 cv41 (fun a=>Nw a.1 a.2):=fz (cc1 OAY (cc2 GAQ cn)) Tryz.func125 [] QAY (fun z=>Yp z.1 z.2.1) (fun z k a=>OAG z.1 z.2.1 k a.1 a.2) Oe gas (fun s s' h=>by cases s <;> cases s' <;> first | (cases h;done) | (cases h;rfl) | exact (rg_ne h (by kernel_rfl)).elim) (fun _ _ s=>by cases s <;> kernel_rfl) fun _ _ _=>by kernel_rfl
abbrev HAQ:=(List Int)→ByteArray→Option ((List Int)×ByteArray)
inductive Qw where
 | c0 (a:ByteArray) (b d:(List Int))
def TAY:Qw→LI
 | .c0 a b d=>(tdo Tryz.f88 96,[vs 1 a,vp 2 128,vp 4 256],[(128,.ar 133 b),(256,.ar 133 d)])
def PAG (z0:NAG) (k:Qw→Option ((List Int)×ByteArray)) (a:(List Int)) (b:ByteArray):Option ((List Int)×ByteArray):=k (.c0 b a [0,0,0,0,0,0,0,0])
def CAA (z0:NAG) (k:Qw→Option ((List Int)×ByteArray)):Qw→Option ((List Int)×ByteArray)
 | .c0 b a d=>cond ((b.size:Int)≥64) (cond (Nat.beq 8 a.length) (cond (0≤(64:Int)&&64≤(b.size:Int)) ((z0 a (b.extract 0 (64:Int).toNat)).bind fun r0=>cond ((Nat.beq r0.length a.length) && (Nat.beq 8 r0.length)) (cond (0≤(64:Int)&&64≤(b.size:Int)) (k (.c0 (b.extract (64:Int).toNat b.size) r0 d)) none) none) none) none) (cond (Nat.beq 8 a.length) (cond ((Nat.beq a.length d.length) && (Nat.beq 8 a.length)) (cond ((Nat.beq 8 a.length) && true) (some (a,b)) none) none) none)
def Zp:Nat→Qw→Option ((List Int)×ByteArray)
 | 0,_=>none
 | m+1,s=>CAA Nw (Zp m) s
def DAA:HAQ:=PAG Nw (Zp gas)
theorem UAY:Tells ctx PP 88 cv43 cv43 (fun a=>DAA a.1 a.2):=fz (cc2 RAY cn) Tryz.func88 [] TAY (fun z=>CAA z.1) (fun z k a=>PAG z.1 k a.1 a.2) Zp gas (fun s s' h=>by cases s;cases s';cases h;rfl) (fun _ _ s=>by cases s <;> kernel_rfl) fun _ _ _=>by kernel_rfl
abbrev IAQ:=(List Int)→Option ByteArray
inductive Rw where
 | c0 (a:ByteArray) (b:(List Int)) (d:Int)
def VAY:Rw→LI
 | .c0 a b d=>(tdo Tryz.f91 232,[vs 3 a,(6,[.arr 133 b]),vi 7 d],[])
def QAG (z0:Y9) (k:Rw→Option ByteArray) (a:(List Int)):Option ByteArray:=cond (Nat.beq 8 a.length) (k (.c0 ⟨#[]⟩ a 0)) none
def EAA (z0:Y9) (k:Rw→Option ByteArray):Rw→Option ByteArray
 | .c0 d b a=>cond (a<8) (cond (Nat.beq 8 b.length) (cond (0≤a&&a<(b.length:Int)) ((z0 (b.getD a.toNat 0)).bind fun r0=>cond ((d.size+r0.size)≤9223372036854775807) (k (.c0 (d++r0) b (w64 (a+1)))) none) none) none) (some d)
def Aq:Nat→Rw→Option ByteArray
 | 0,_=>none
 | m+1,s=>EAA Xp (Aq m) s
def FAA:IAQ:=QAG Xp (Aq gas)
theorem XAY:Tells ctx PP 91 cv41 cv8 (fun a=>FAA a):=fz (cc1 CAQ cn) Tryz.func91 [] VAY (fun z=>EAA z.1) (fun z k a=>QAG z.1 k a) Aq gas (fun s s' h=>by cases s;cases s';cases h;rfl) (fun _ _ s=>by cases s <;> kernel_rfl) fun _ _ _=>by kernel_rfl
abbrev GAA:=ByteArray→Option ByteArray
def RAG (z0:ZAP) (z1:EAQ) (z2:HAQ) (z3:IAQ) (a:ByteArray):Option ByteArray:=z0.bind fun r0=>(z1 (a.size:Int)).bind fun r1=>cond ((a.size+r1.size)≤9223372036854775807) ((z2 r0 (a++r1)).bind fun r2=>cond ((Nat.beq r2.1.length 8) && (Nat.beq 8 r2.1.length)) (cond (Nat.beq 8 r2.1.length) ((z3 r2.1).bind fun r3=>some r3) none) none) none
def Og:GAA:=RAG EAG AAA DAA FAA
theorem JAQ:Tells ctx PP 50 cv8 cv8 (fun a=>Og a):=fz0 (cc0 GAY (cc1 JAY (cc2 UAY (cc1 XAY cn)))) Tryz.func50 [] (fun z a=>RAG z.1 z.2.1 z.2.2.1 z.2.2.2.1 a) fun _ _=>by kernel_rfl
abbrev KAQ:=ByteArray→Option (List Int)
inductive Uw where
 | c0 (a:ByteArray) (b:Int) (d e:(List Int))
def YAY:Uw→LI
 | .c0 a b d e=>(tdo Tryz.f224 232,[vs 0 a,vp 2 128,vp 3 192,vi 5 b],[(128,.ar 253 d),(192,.ar 253 e)])
def SAG (k:Uw→Option (List Int)) (a:ByteArray):Option (List Int):=k (.c0 a 0 (List.replicate 25 (0:Int)) (List.replicate 25 (0:Int)))
def HAA (k:Uw→Option (List Int)):Uw→Option (List Int)
 | .c0 d a e b=>cond (a<200) (cond (Nat.beq 25 b.length) (cond (0≤(w64 (a.tdiv 8))&&(w64 (a.tdiv 8))<(b.length:Int)) (cond (0≤a&&a<(d.size:Int)) (cond (0≤(w64 (8*(a.tmod 8)))) (cond (Nat.beq 25 b.length) (cond (0≤(w64 (a.tdiv 8))&&(w64 (a.tdiv 8))<(b.length:Int)) (k (.c0 d (w64 (a+1)) e (b.set (w64 (a.tdiv 8)).toNat (wu64 (((BitVec.toNat ((BitVec.ofInt (IntKind.bits .u64) (b.getD (w64 (a.tdiv 8)).toNat 0)) ||| (BitVec.ofInt (IntKind.bits .u64) (wu64 ((wu64 (bt d a))*(2 ^ (Min.min (w64 (8*(a.tmod 8))).toNat (IntKind.bits .u64)))))))):Nat):Int))))) none) none) none) none) none) none) (cond (Nat.beq 25 b.length) (cond ((Nat.beq b.length e.length) && (Nat.beq 25 b.length)) (cond ((Nat.beq 25 b.length) && true) (some b) none) none) none)
def Bq:Nat→Uw→Option (List Int)
 | 0,_=>none
 | m+1,s=>HAA (Bq m) s
def IAA:KAQ:=SAG (Bq gas)
theorem ZAY:Tells ctx PP 224 cv8 cv44 (fun a=>IAA a):=fz cn Tryz.func224 [] YAY (fun _=>HAA) (fun _ k a=>SAG k a) Bq gas (fun s s' h=>by cases s;cases s';cases h;rfl) (fun _ _ s=>by cases s <;> kernel_rfl) fun _ _ _=>by kernel_rfl
abbrev Vw:=Int→Int→Option Int
def UAG (b:Int) (a:Int):Option Int:=cond (0≤(wu64 (64 - (wu64 (((BitVec.toNat ((BitVec.ofInt (IntKind.bits .u64) (wu64 a)) &&& (BitVec.ofInt (IntKind.bits .u64) 63))):Nat):Int))))) (some (wu64 (((BitVec.toNat ((BitVec.ofInt (IntKind.bits .u64) (wu64 (b*(2 ^ (Min.min (wu64 (((BitVec.toNat ((BitVec.ofInt (IntKind.bits .u64) (wu64 a)) &&& (BitVec.ofInt (IntKind.bits .u64) 63))):Nat):Int)).toNat (IntKind.bits .u64)))))) ||| (BitVec.ofInt (IntKind.bits .u64) (Int.fdiv b (2 ^ (Min.min (wu64 (64 - (wu64 (((BitVec.toNat ((BitVec.ofInt (IntKind.bits .u64) (wu64 a)) &&& (BitVec.ofInt (IntKind.bits .u64) 63))):Nat):Int)))).toNat (IntKind.bits .u64))))))):Nat):Int))) none
def Zi:Vw:=UAG
theorem LAQ:Tells ctx PP 260 cv18 cv19 (fun a=>Zi a.1 a.2):=fz0 cn Tryz.func260 [] (fun _ a=>UAG a.1 a.2) fun _ _=>by kernel_rfl
abbrev VAG:=(List Int)→Option (List Int)
inductive Xw where
 | c0 (e:(List Int)) (f:Int) (a b d:(List Int))
 | c1 (g:Int) (a b d:(List Int))
def AAZ:Xw→LI
 | .c0 e f a b d=>(tdo Tryz.f239 232,[vp 1 64,vp 2 128,vp 3 192,(8,[.arr 253 e]),vi 9 f],[(64,.ar 253 a),(128,.ar 253 b),(192,.ar 253 d)])
 | .c1 g a b d=>(tdo Tryz.f239 488,[vp 1 64,vp 2 128,vp 3 192,vi 21 g],[(64,.ar 253 a),(128,.ar 253 b),(192,.ar 253 d)])
def WAG (z0:Vw) (k:Xw→Option (List Int)) (a:(List Int)):Option (List Int):=cond (Nat.beq 25 a.length) (k (.c0 a 0 a (List.replicate 25 (0:Int)) [0,0,0,0,0])) none
def Dq (z0:Vw) (k:Xw→Option (List Int)):Xw→Option (List Int)
 | .c0 g e b f a=>cond (e<25) (cond (Nat.beq 25 g.length) (cond (0≤e&&e<(g.length:Int)) (cond (Nat.beq 5 a.length) (cond (0≤(e.tmod 5)&&(e.tmod 5)<(a.length:Int)) (cond (Nat.beq 5 a.length) (cond (0≤(e.tmod 5)&&(e.tmod 5)<(a.length:Int)) (k (.c0 g (w64 (e+1)) b f (a.set (e.tmod 5).toNat (wu64 (((BitVec.toNat ((BitVec.ofInt (IntKind.bits .u64) (a.getD (e.tmod 5).toNat 0)) ^^^ (BitVec.ofInt (IntKind.bits .u64) (g.getD e.toNat 0)))):Nat):Int))))) none) none) none) none) none) none) (k (.c1 0 b f a))
 | .c1 d b f a=>cond (d<25) (cond (Nat.beq 25 b.length) (cond (0≤d&&d<(b.length:Int)) (cond (Nat.beq 5 a.length) (cond (0≤((w64 ((d.tmod 5)+4)).tmod 5)&&((w64 ((d.tmod 5)+4)).tmod 5)<(a.length:Int)) (cond (Nat.beq 5 a.length) (cond (0≤((w64 ((d.tmod 5)+1)).tmod 5)&&((w64 ((d.tmod 5)+1)).tmod 5)<(a.length:Int)) ((z0 (a.getD ((w64 ((d.tmod 5)+1)).tmod 5).toNat 0) 1).bind fun r0=>cond (Nat.beq 25 b.length) (cond (0≤d&&d<(b.length:Int)) (k (.c1 (w64 (d+1)) (b.set d.toNat (wu64 (((BitVec.toNat ((BitVec.ofInt (IntKind.bits .u64) (b.getD d.toNat 0)) ^^^ (BitVec.ofInt (IntKind.bits .u64) (wu64 (((BitVec.toNat ((BitVec.ofInt (IntKind.bits .u64) (a.getD ((w64 ((d.tmod 5)+4)).tmod 5).toNat 0)) ^^^ (BitVec.ofInt (IntKind.bits .u64) r0))):Nat):Int))))):Nat):Int))) f a)) none) none) none) none) none) none) none) none) (cond (Nat.beq 25 b.length) (cond ((Nat.beq b.length f.length) && (Nat.beq 25 b.length)) (cond ((Nat.beq 25 b.length) && true) (some b) none) none) none)
def Wh:Nat→Xw→Option (List Int)
 | 0,_=>none
 | m+1,s=>Dq Zi (Wh m) s
def Yw:VAG:=WAG Zi (Wh gas)
theorem BAZ:Tells ctx PP 239 cv44 cv44 (fun a=>Yw a):=fz (cc2 LAQ cn) Tryz.func239 [] AAZ (fun z=>Dq z.1) (fun z k a=>WAG z.1 k a) Wh gas (fun s s' h=>by cases s <;> cases s' <;> first | (cases h;done) | (cases h;rfl) | exact (rg_ne h (by kernel_rfl)).elim) (fun _ _ s=>by cases s <;> kernel_rfl) fun _ _ _=>by kernel_rfl
abbrev XAG:=(List Int)→Option (List Int)
inductive Zw where
 | c0 (a b d:Int) (e f g:(List Int))
def CAZ:Zw→LI
 | .c0 a b d e f g=>(tdo Tryz.f240 1000,[vp 1 64,vp 2 128,vp 3 192,vi 4 a,vi 5 b,vi 13 d],[(64,.ar 253 e),(128,.ar 253 f),(192,.ar 253 g)])
def YAG (z0:Vw) (k:Zw→Option (List Int)) (a:(List Int)):Option (List Int):=cond (Nat.beq 25 a.length) (cond (0≤(0:Int)&&0<(a.length:Int)) (k (.c0 1 0 0 a (List.replicate 25 (0:Int)) [a.getD (0:Int).toNat 0,0,0,0,0,0,0,0,0,0,0,0,0,0,0,0,0,0,0,0,0,0,0,0,0])) none) none
def JAA (z0:Vw) (k:Zw→Option (List Int)):Zw→Option (List Int)
 | .c0 d a e f g b=>cond (e<24) (cond (Nat.beq 25 f.length) (cond (0≤(w64 (d+(w64 (5*a))))&&(w64 (d+(w64 (5*a))))<(f.length:Int)) ((z0 (f.getD (w64 (d+(w64 (5*a)))).toNat 0) ((w64 ((w64 ((w64 (e+1))*(w64 (e+2)))).tdiv 2)).tmod 64)).bind fun r0=>cond (Nat.beq 25 b.length) (cond (0≤(w64 (a+(w64 (5*((w64 ((w64 (2*d))+(w64 (3*a)))).tmod 5)))))&&(w64 (a+(w64 (5*((w64 ((w64 (2*d))+(w64 (3*a)))).tmod 5)))))<(b.length:Int)) (k (.c0 a ((w64 ((w64 (2*d))+(w64 (3*a)))).tmod 5) (w64 (e+1)) f g (b.set (w64 (a+(w64 (5*((w64 ((w64 (2*d))+(w64 (3*a)))).tmod 5))))).toNat r0))) none) none) none) none) (cond (Nat.beq 25 b.length) (cond ((Nat.beq b.length g.length) && (Nat.beq 25 b.length)) (cond ((Nat.beq 25 b.length) && true) (some b) none) none) none)
def Fq:Nat→Zw→Option (List Int)
 | 0,_=>none
 | m+1,s=>JAA Zi (Fq m) s
def Dx:XAG:=YAG Zi (Fq gas)
theorem DAZ:Tells ctx PP 240 cv44 cv44 (fun a=>Dx a):=fz (cc2 LAQ cn) Tryz.func240 [] CAZ (fun z=>JAA z.1) (fun z k a=>YAG z.1 k a) Fq gas (fun s s' h=>by cases s;cases s';cases h;rfl) (fun _ _ s=>by cases s <;> kernel_rfl) fun _ _ _=>by kernel_rfl
abbrev AAH:=(List Int)→Option (List Int)
inductive Gx where
 | c0 (a:Int) (b d e:(List Int))
 | c1 (f a g:Int) (b d e:(List Int))
def EAZ:Gx→LI
 | .c0 a b d e=>(tdo Tryz.f241 232,[vp 1 64,vp 2 128,vp 3 192,vi 6 a],[(64,.ar 253 b),(128,.ar 253 d),(192,.ar 253 e)])
 | .c1 f a g b d e=>(tdo Tryz.f241 59800,[vp 1 64,vp 2 128,vp 3 192,vi 4 f,vi 6 a,vi 9 g],[(64,.ar 253 b),(128,.ar 253 d),(192,.ar 253 e)])
def BAH (k:Gx→Option (List Int)) (a:(List Int)):Option (List Int):=k (.c0 0 a (List.replicate 25 (0:Int)) (List.replicate 25 (0:Int)))
def Gq (k:Gx→Option (List Int)):Gx→Option (List Int)
 | .c0 f b g e=>cond (f<5) (k (.c1 f f 0 b g e)) (cond (Nat.beq 25 e.length) (cond ((Nat.beq e.length g.length) && (Nat.beq 25 e.length)) (cond ((Nat.beq 25 e.length) && true) (some e) none) none) none)
 | .c1 d f a b g e=>cond (a<5) (cond (Nat.beq 25 b.length) (cond (0≤(w64 (a+(w64 (5*d))))&&(w64 (a+(w64 (5*d))))<(b.length:Int)) (cond (Nat.beq 25 b.length) (cond (0≤(w64 (((w64 (a+1)).tmod 5)+(w64 (5*d))))&&(w64 (((w64 (a+1)).tmod 5)+(w64 (5*d))))<(b.length:Int)) (cond (Nat.beq 25 b.length) (cond (0≤(w64 (((w64 (a+2)).tmod 5)+(w64 (5*d))))&&(w64 (((w64 (a+2)).tmod 5)+(w64 (5*d))))<(b.length:Int)) (cond (Nat.beq 25 e.length) (cond (0≤(w64 (a+(w64 (5*d))))&&(w64 (a+(w64 (5*d))))<(e.length:Int)) (k (.c1 d f (w64 (a+1)) b g (e.set (w64 (a+(w64 (5*d)))).toNat (wu64 (((BitVec.toNat ((BitVec.ofInt (IntKind.bits .u64) (b.getD (w64 (a+(w64 (5*d)))).toNat 0)) ^^^ (BitVec.ofInt (IntKind.bits .u64) (wu64 (((BitVec.toNat ((BitVec.ofInt (IntKind.bits .u64) (wu64 (((BitVec.toNat ((BitVec.ofInt (IntKind.bits .u64) (ite ((IntKind.signed IntKind.u64)=true) (-(1:Int)) (IntKind.max IntKind.u64))) ^^^ (BitVec.ofInt (IntKind.bits .u64) (b.getD (w64 (((w64 (a+1)).tmod 5)+(w64 (5*d)))).toNat 0)))):Nat):Int))) &&& (BitVec.ofInt (IntKind.bits .u64) (b.getD (w64 (((w64 (a+2)).tmod 5)+(w64 (5*d)))).toNat 0)))):Nat):Int))))):Nat):Int))))) none) none) none) none) none) none) none) none) (k (.c0 (w64 (f+1)) b g e))
def Xh:Nat→Gx→Option (List Int)
 | 0,_=>none
 | m+1,s=>Gq (Xh m) s
def Ox:AAH:=BAH (Xh gas)
theorem FAZ:Tells ctx PP 241 cv44 cv44 (fun a=>Ox a):=fz cn Tryz.func241 [] EAZ (fun _=>Gq) (fun _ k a=>BAH k a) Xh gas (fun s s' h=>by cases s <;> cases s' <;> first | (cases h;done) | (cases h;rfl) | exact (rg_ne h (by kernel_rfl)).elim) (fun _ _ s=>by cases s <;> kernel_rfl) fun _ _ _=>by kernel_rfl
abbrev CAH:=Int→Option Int
inductive Px where
 | c0 (a b d:Int)
def GAZ:Px→LI
 | .c0 a b d=>(tdo Tryz.f261 232,[vi 3 a,vi 4 b,vi 5 d],[])
def MAQ (k:Px→Option Int) (a:Int):Option Int:=k (.c0 1 a 0)
def NAQ (k:Px→Option Int):Px→Option Int
 | .c0 a b d=>cond (d<b) (cond ((w64 (a*(2 ^ (Min.min (1:Int).toNat (IntKind.bits .i64)))))≥256) (k (.c0 (w64 (((BitVec.toNat ((BitVec.ofInt (IntKind.bits .i64) (w64 (((BitVec.toNat ((BitVec.ofInt (IntKind.bits .i64) (w64 (a*(2 ^ (Min.min (1:Int).toNat (IntKind.bits .i64)))))) ^^^ (BitVec.ofInt (IntKind.bits .i64) 113))):Nat):Int))) &&& (BitVec.ofInt (IntKind.bits .i64) 255))):Nat):Int)) b (w64 (d+1)))) (k (.c0 (w64 (a*(2 ^ (Min.min (1:Int).toNat (IntKind.bits .i64))))) b (w64 (d+1))))) (some (wu64 (w64 (((BitVec.toNat ((BitVec.ofInt (IntKind.bits .i64) a) &&& (BitVec.ofInt (IntKind.bits .i64) 1))):Nat):Int))))
def DAH:Nat→Px→Option Int
 | 0,_=>none
 | m+1,s=>NAQ (DAH m) s
def EAH:CAH:=MAQ (DAH gas)
theorem HAZ:Tells ctx PP 261 cv1 cv19 (fun a=>EAH a):=fz cn Tryz.func261 [] GAZ (fun _=>NAQ) (fun _ k a=>MAQ k a) DAH gas (fun s s' h=>by cases s;cases s';cases h;rfl) (fun _ _ s=>by cases s <;> kernel_rfl) fun _ _ _=>by kernel_rfl
abbrev FAH:=Int→Option Int
inductive Qx where
 | c0 (a b d:Int)
def IAZ:Qx→LI
 | .c0 a b d=>(tdo Tryz.f242 232,[vi 0 a,(3,[.one (.int .u64 b)]),vi 5 d],[])
def OAQ (z0:CAH) (k:Qx→Option Int) (a:Int):Option Int:=k (.c0 a 0 0)
def PAQ (z0:CAH) (k:Qx→Option Int):Qx→Option Int
 | .c0 b d a=>cond (a<7) ((z0 (w64 (a+(w64 (7*b))))).bind fun r0=>cond (0≤a) (cond (0≤(wu64 ((wu64 (1*(2 ^ (Min.min a.toNat (IntKind.bits .u64))))) - 1))) (k (.c0 b (wu64 (((BitVec.toNat ((BitVec.ofInt (IntKind.bits .u64) d) ||| (BitVec.ofInt (IntKind.bits .u64) (wu64 (r0*(2 ^ (Min.min (wu64 ((wu64 (1*(2 ^ (Min.min a.toNat (IntKind.bits .u64))))) - 1)).toNat (IntKind.bits .u64)))))))):Nat):Int)) (w64 (a+1)))) none) none) (some d)
def GAH:Nat→Qx→Option Int
 | 0,_=>none
 | m+1,s=>PAQ EAH (GAH m) s
def KAA:FAH:=OAQ EAH (GAH gas)
theorem JAZ:Tells ctx PP 242 cv1 cv19 (fun a=>KAA a):=fz (cc1 HAZ cn) Tryz.func242 [] IAZ (fun z=>PAQ z.1) (fun z k a=>OAQ z.1 k a) GAH gas (fun s s' h=>by cases s;cases s';cases h;rfl) (fun _ _ s=>by cases s <;> kernel_rfl) fun _ _ _=>by kernel_rfl
abbrev QAQ:=(List Int)→Option (List Int)
inductive Rx where
 | c0 (a:Int) (b d:(List Int))
def KAZ:Rx→LI
 | .c0 a b d=>(tdo Tryz.f223 104,[vp 1 64,vp 2 128,vi 4 a],[(64,.ar 253 b),(128,.ar 253 d)])
def HAH (z0:VAG) (z1:XAG) (z2:AAH) (z3:FAH) (k:Rx→Option (List Int)) (a:(List Int)):Option (List Int):=k (.c0 0 a (List.replicate 25 (0:Int)))
def LAA (z0:VAG) (z1:XAG) (z2:AAH) (z3:FAH) (k:Rx→Option (List Int)):Rx→Option (List Int)
 | .c0 b a d=>cond (b<24) (cond (Nat.beq 25 a.length) ((z0 a).bind fun r0=>(z1 r0).bind fun r1=>(z2 r1).bind fun r2=>cond ((Nat.beq r2.length a.length) && (Nat.beq 25 r2.length)) (cond (Nat.beq 25 r2.length) (cond (0≤(0:Int)&&0<(r2.length:Int)) ((z3 b).bind fun r3=>cond (Nat.beq 25 r2.length) (cond (0≤(0:Int)&&0<(r2.length:Int)) (k (.c0 (w64 (b+1)) (r2.set (0:Int).toNat (wu64 (((BitVec.toNat ((BitVec.ofInt (IntKind.bits .u64) (r2.getD (0:Int).toNat 0)) ^^^ (BitVec.ofInt (IntKind.bits .u64) r3))):Nat):Int))) d)) none) none) none) none) none) none) (cond (Nat.beq 25 a.length) (cond ((Nat.beq a.length d.length) && (Nat.beq 25 a.length)) (cond ((Nat.beq 25 a.length) && true) (some a) none) none) none)
def Hq:Nat→Rx→Option (List Int)
 | 0,_=>none
 | m+1,s=>LAA Yw Dx Ox KAA (Hq m) s
def MAA:QAQ:=HAH Yw Dx Ox KAA (Hq gas)
theorem LAZ:Tells ctx PP 223 cv44 cv44 (fun a=>MAA a):=fz (cc1 BAZ (cc1 DAZ (cc1 FAZ (cc1 JAZ cn)))) Tryz.func223 [] KAZ (fun z=>LAA z.1 z.2.1 z.2.2.1 z.2.2.2.1) (fun z k a=>HAH z.1 z.2.1 z.2.2.1 z.2.2.2.1 k a) Hq gas (fun s s' h=>by cases s;cases s';cases h;rfl) (fun _ _ s=>by cases s <;> kernel_rfl) fun _ _ _=>by kernel_rfl
abbrev RAQ:=(List Int)→Option ByteArray
inductive Ux where
 | c0 (a b:Int) (d e:(List Int))
def MAZ:Ux→LI
 | .c0 a b d e=>(tdo Tryz.f225 232,[vp 1 64,vo 3 240,vi 7 a,vi 8 b],[(64,.ar 253 d),(240,.sl 5 e)])
def IAH (k:Ux→Option ByteArray) (a:(List Int)):Option ByteArray:=k (.c0 ((List.replicate (200:Int).toNat (0:Int)).length:Int) 0 a (List.replicate (200:Int).toNat (0:Int)))
def NAA (k:Ux→Option ByteArray):Ux→Option ByteArray
 | .c0 e a b d=>cond (a<e) (cond (Nat.beq 25 b.length) (cond (0≤(w64 (a.tdiv 8))&&(w64 (a.tdiv 8))<(b.length:Int)) (cond (0≤(w64 (8*(a.tmod 8)))) (cond (0≤a&&a<(d.length:Int)) (k (.c0 e (w64 (a+1)) b (d.set a.toNat (w8 (Int.fdiv (b.getD (w64 (a.tdiv 8)).toNat 0) (2 ^ (Min.min (w64 (8*(a.tmod 8))).toNat (IntKind.bits .u64)))))))) none) none) none) none) (some (ofBytes d))
def Iq:Nat→Ux→Option ByteArray
 | 0,_=>none
 | m+1,s=>NAA (Iq m) s
def OAA:RAQ:=IAH (Iq gas)
theorem NAZ:Tells ctx PP 225 cv44 cv8 (fun a=>OAA a):=fz cn Tryz.func225 [] MAZ (fun _=>NAA) (fun _ k a=>IAH k a) Iq gas (fun s s' h=>by cases s;cases s';cases h;rfl) (fun _ _ s=>by cases s <;> kernel_rfl) fun _ _ _=>by kernel_rfl
abbrev Vx:=ByteArray→Option ByteArray
def JAH (z0:KAQ) (z1:QAQ) (z2:RAQ) (a:ByteArray):Option ByteArray:=cond ((a.size:Int) != 200) (some a) ((z0 a).bind fun r0=>(z1 r0).bind fun r1=>(z2 r1).bind fun r2=>some r2)
def Ql:Vx:=JAH IAA MAA OAA
theorem SAQ:Tells ctx PP 199 cv8 cv8 (fun a=>Ql a):=fz0 (cc1 ZAY (cc1 LAZ (cc1 NAZ cn))) Tryz.func199 [] (fun z a=>JAH z.1 z.2.1 z.2.2.1 a) fun _ _=>by kernel_rfl
abbrev TAQ:=ByteArray→Int→Int→Option ByteArray
inductive Wx where
 | c0 (a:Int) (b:(List Int))
 | c1 (a d:Int) (b e:(List Int))
 | c2 (a d:Int) (f g:Int) (b e:(List Int))
def OAZ:Wx→LI
 | .c0 a b=>(tdo Tryz.f198 224,[vi 1 a,vo 7 496],[(496,.sl 5 b)])
 | .c1 a d b e=>(tdo Tryz.f198 4048,[vi 1 a,vo 7 496,vo 8 560,vi 9 d],[(496,.sl 5 b),(560,.sl 5 e)])
 | .c2 a d f g b e=>(tdo Tryz.f198 259208,[vi 1 a,vo 7 496,vo 8 560,vi 9 d,vi 40 f,vi 41 g],[(496,.sl 5 b),(560,.sl 5 e)])
def KAH (z0:Vx) (k:Wx→Option ByteArray) (a:ByteArray) (b:Int) (d:Int):Option ByteArray:=cond (a.size≤9223372036854775807) (cond ((((bytesOf a).length+1)*1)≤140737488355328) (k (.c0 b ((bytesOf a)++[d]))) none) none
def Aj (z0:Vx) (k:Wx→Option ByteArray):Wx→Option ByteArray
 | .c0 b a=>cond (!(b == 0)) (cond (((a.length:Int).tmod b) != 0) (cond (((a.length+1)*1)≤140737488355328) (k (.c0 b (a++[(0:Int)]))) none) (cond (0≤(w64 ((a.length:Int) - 1))&&(w64 ((a.length:Int) - 1))<(a.length:Int)) (cond (0≤(w64 ((a.length:Int) - 1))&&(w64 ((a.length:Int) - 1))<(a.length:Int)) (k (.c1 b 0 (a.set (w64 ((a.length:Int) - 1)).toNat (w8 (((BitVec.toNat ((BitVec.ofInt (IntKind.bits .u8) (a.getD (w64 ((a.length:Int) - 1)).toNat 0)) ^^^ (BitVec.ofInt (IntKind.bits .u8) 128))):Nat):Int))) (List.replicate (200:Int).toNat (0:Int)))) none) none)) none
 | .c1 b e a f=>cond (e<(a.length:Int)) (k (.c2 b e b 0 a f)) (some (ofBytes f))
 | .c2 b e g d a f=>cond (d<g) (cond (0≤d&&d<(f.length:Int)) (cond (0≤(w64 (e+d))&&(w64 (e+d))<(a.length:Int)) (cond (0≤d&&d<(f.length:Int)) (k (.c2 b e g (w64 (d+1)) a (f.set d.toNat (w8 (((BitVec.toNat ((BitVec.ofInt (IntKind.bits .u8) (f.getD d.toNat 0)) ^^^ (BitVec.ofInt (IntKind.bits .u8) (a.getD (w64 (e+d)).toNat 0)))):Nat):Int))))) none) none) none) ((z0 (ofBytes f)).bind fun r0=>cond (r0.size≤9223372036854775807) (k (.c1 b (w64 (e+b)) a (bytesOf r0))) none)
def Yc:Nat→Wx→Option ByteArray
 | 0,_=>none
 | m+1,s=>Aj Ql (Yc m) s
def Xx:TAQ:=KAH Ql (Yc gas)
theorem PAZ:Tells ctx PP 198 cv22 cv8 (fun a=>Xx a.1 a.2.1 a.2.2):=fz (cc1 SAQ cn) Tryz.func198 [] OAZ (fun z=>Aj z.1) (fun z k a=>KAH z.1 k a.1 a.2.1 a.2.2) Yc gas (fun s s' h=>by cases s <;> cases s' <;> first | (cases h;done) | (cases h;rfl) | exact (rg_ne h (by kernel_rfl)).elim) (fun _ _ s=>by cases s <;> kernel_rfl) fun _ _ _=>by kernel_rfl
abbrev PAA:=ByteArray→Option SStream
def LAH (z0:TAQ) (a:ByteArray):Option SStream:=(z0 a 168 31).bind fun r0=>some ⟨r0,0⟩
def Jq:PAA:=LAH Xx
theorem UAQ:Tells ctx PP 156 cv8 cv23 (fun a=>Jq a):=fz0 (cc3 PAZ cn) Tryz.func156 [] (fun z a=>LAH z.1 a) fun _ _=>by kernel_rfl
abbrev QAA:=SStream→Int→Option (SStream×ByteArray)
inductive Yx where
 | c0 (a:Int) (b:ByteArray) (d e:SStream)
def QAZ:Yx→LI
 | .c0 d e a b=>(tdo Tryz.f157 480,[vi 1 d,vp 2 128,vp 4 256,vs 6 e],[(128,.var [.str a.fState,li a.fAt]),(256,.var [.str b.fState,li b.fAt])])
def MAH (z0:Hf) (z1:Vx) (k:Yx→Option (SStream×ByteArray)) (a:SStream) (b:Int):Option (SStream×ByteArray):=(z0 b 0 4000).bind fun r0=>cond (!r0) (some (a,⟨#[]⟩)) (cond ((a.fState.size:Int) != 200) (some (a,⟨#[]⟩)) ((z0 a.fAt 0 168).bind fun r1=>cond (!r1) (some (a,⟨#[]⟩)) (k (.c0 b ⟨#[]⟩ a ⟨⟨#[]⟩,0⟩))))
def NAH (z0:Hf) (z1:Vx) (k:Yx→Option (SStream×ByteArray)):Yx→Option (SStream×ByteArray)
 | .c0 d a b e=>cond ((a.size:Int)<d) (cond (b.fAt == 168) ((z1 b.fState).bind fun r0=>cond (((decide (0≤(0:Int))) && (decide (0≤(w64 (0+(ite ((w64 ((168:Int) - (0:Int)))<(w64 (d - (a.size:Int)))) (w64 ((168:Int) - (0:Int))) (w64 (d - (a.size:Int))))))))) && (decide ((w64 (0+(ite ((w64 ((168:Int) - (0:Int)))<(w64 (d - (a.size:Int)))) (w64 ((168:Int) - (0:Int))) (w64 (d - (a.size:Int))))))≤(r0.size:Int)))) (cond ((a.size+(r0.extract (0:Int).toNat (w64 (0+(ite ((w64 ((168:Int) - (0:Int)))<(w64 (d - (a.size:Int)))) (w64 ((168:Int) - (0:Int))) (w64 (d - (a.size:Int)))))).toNat).size)≤9223372036854775807) (k (.c0 d (a++(r0.extract (0:Int).toNat (w64 (0+(ite ((w64 ((168:Int) - (0:Int)))<(w64 (d - (a.size:Int)))) (w64 ((168:Int) - (0:Int))) (w64 (d - (a.size:Int)))))).toNat)) ⟨r0,w64 (0+(ite ((w64 ((168:Int) - (0:Int)))<(w64 (d - (a.size:Int)))) (w64 ((168:Int) - (0:Int))) (w64 (d - (a.size:Int)))))⟩ e)) none) none) (cond (((decide (0≤b.fAt)) && (decide (b.fAt≤(w64 (b.fAt+(ite ((w64 (168 - b.fAt))<(w64 (d - (a.size:Int)))) (w64 (168 - b.fAt)) (w64 (d - (a.size:Int))))))))) && (decide ((w64 (b.fAt+(ite ((w64 (168 - b.fAt))<(w64 (d - (a.size:Int)))) (w64 (168 - b.fAt)) (w64 (d - (a.size:Int))))))≤(b.fState.size:Int)))) (cond ((a.size+(b.fState.extract b.fAt.toNat (w64 (b.fAt+(ite ((w64 (168 - b.fAt))<(w64 (d - (a.size:Int)))) (w64 (168 - b.fAt)) (w64 (d - (a.size:Int)))))).toNat).size)≤9223372036854775807) (k (.c0 d (a++(b.fState.extract b.fAt.toNat (w64 (b.fAt+(ite ((w64 (168 - b.fAt))<(w64 (d - (a.size:Int)))) (w64 (168 - b.fAt)) (w64 (d - (a.size:Int)))))).toNat)) ⟨b.fState,w64 (b.fAt+(ite ((w64 (168 - b.fAt))<(w64 (d - (a.size:Int)))) (w64 (168 - b.fAt)) (w64 (d - (a.size:Int)))))⟩ e)) none) none)) (some (b,a))
def Kq:Nat→Yx→Option (SStream×ByteArray)
 | 0,_=>none
 | m+1,s=>NAH Me Ql (Kq m) s
def Rl:QAA:=MAH Me Ql (Kq gas)
theorem VAQ:Tells ctx PP 157 cv24 cv25 (fun a=>Rl a.1 a.2):=fz (cc3 Ap (cc1 SAQ cn)) Tryz.func157 [] QAZ (fun z=>NAH z.1 z.2.1) (fun z k a=>MAH z.1 z.2.1 k a.1 a.2) Kq gas (fun s s' h=>by cases s;cases s';(repeat cases ‹SStream›);cases h;rfl) (fun _ _ s=>by cases s <;> kernel_rfl) fun _ _ _=>by kernel_rfl
abbrev OAH:=ByteArray→Int→Option (ByteArray×Bool)
def PAH (z0:Hf) (z1:PAA) (z2:QAA) (b:ByteArray) (a:Int):Option (ByteArray×Bool):=(z0 a 0 4000).bind fun r0=>cond (!r0) (some (⟨#[]⟩,false)) ((z1 b).bind fun r1=>(z2 r1 a).bind fun r2=>some (r2.2,true))
def Nq:OAH:=PAH Me Jq Rl
theorem RAZ:Tells ctx PP 155 cv10 cv28 (fun a=>Nq a.1 a.2):=fz0 (cc3 Ap (cc1 UAQ (cc2 VAQ cn))) Tryz.func155 [] (fun z a=>PAH z.1 z.2.1 z.2.2.1 a.1 a.2) fun _ _=>by kernel_rfl
abbrev Tf:=Int→Option Int
def QAH (a:Int):Option Int:=some ((w64 ((a.tmod 3329)+3329)).tmod 3329)
def Yd:Tf:=QAH
theorem Zx:Tells ctx PP 154 cv1 cv1 (fun a=>Yd a):=fz0 cn Tryz.func154 [] (fun _ a=>QAH a) fun _ _=>by kernel_rfl
abbrev RAH:=ByteArray→Int→Option (List Int)
inductive Dy where
 | c0 (a:ByteArray) (b d:Int) (e:(List Int))
def SAZ:Dy→LI
 | .c0 a b d e=>(tdo Tryz.f108 488,[vs 5 a,vo 7 496,vi 20 b,vi 21 d],[(496,.sl 3 e)])
def SAH (z0:Jf) (z1:OAH) (z2:Tf) (k:Dy→Option (List Int)) (a:ByteArray) (b:Int):Option (List Int):=(z0 b).bind fun r0=>cond ((a.size+r0.size)≤9223372036854775807) ((z1 (a++r0) 128).bind fun r1=>k (.c0 r1.1 ((List.replicate (256:Int).toNat (0:Int)).length:Int) 0 (List.replicate (256:Int).toNat (0:Int)))) none
def RAA (z0:Jf) (z1:OAH) (z2:Tf) (k:Dy→Option (List Int)):Dy→Option (List Int)
 | .c0 b e a d=>cond (a<e) (cond (0≤(w64 (a.tdiv 2))&&(w64 (a.tdiv 2))<(b.size:Int)) (cond (0≤(w64 (4*(a.tmod 2)))) ((z2 (w64 ((w64 ((w64 ((w64 (((BitVec.toNat ((BitVec.ofInt (IntKind.bits .i64) (w64 (Int.fdiv (bt b (w64 (a.tdiv 2))) (2 ^ (Min.min (w64 (4*(a.tmod 2))).toNat (IntKind.bits .u8)))))) &&& (BitVec.ofInt (IntKind.bits .i64) 1))):Nat):Int))+(w64 (((BitVec.toNat ((BitVec.ofInt (IntKind.bits .i64) (Int.fdiv (w64 (Int.fdiv (bt b (w64 (a.tdiv 2))) (2 ^ (Min.min (w64 (4*(a.tmod 2))).toNat (IntKind.bits .u8))))) (2 ^ (Min.min (1:Int).toNat (IntKind.bits .i64))))) &&& (BitVec.ofInt (IntKind.bits .i64) 1))):Nat):Int)))) - (w64 (((BitVec.toNat ((BitVec.ofInt (IntKind.bits .i64) (Int.fdiv (w64 (Int.fdiv (bt b (w64 (a.tdiv 2))) (2 ^ (Min.min (w64 (4*(a.tmod 2))).toNat (IntKind.bits .u8))))) (2 ^ (Min.min (2:Int).toNat (IntKind.bits .i64))))) &&& (BitVec.ofInt (IntKind.bits .i64) 1))):Nat):Int)))) - (w64 (((BitVec.toNat ((BitVec.ofInt (IntKind.bits .i64) (Int.fdiv (w64 (Int.fdiv (bt b (w64 (a.tdiv 2))) (2 ^ (Min.min (w64 (4*(a.tmod 2))).toNat (IntKind.bits .u8))))) (2 ^ (Min.min (3:Int).toNat (IntKind.bits .i64))))) &&& (BitVec.ofInt (IntKind.bits .i64) 1))):Nat):Int))))).bind fun r0=>cond (0≤a&&a<(d.length:Int)) (k (.c0 b e (w64 (a+1)) (d.set a.toNat r0))) none) none) none) (some d)
def Oq:Nat→Dy→Option (List Int)
 | 0,_=>none
 | m+1,s=>RAA Qc Nq Yd (Oq m) s
def Ey:RAH:=SAH Qc Nq Yd (Oq gas)
theorem TAZ:Tells ctx PP 108 cv10 cv17 (fun a=>Ey a.1 a.2):=fz (cc1 Ep (cc2 RAZ (cc1 Zx cn))) Tryz.func108 [] SAZ (fun z=>RAA z.1 z.2.1 z.2.2.1) (fun z k a=>SAH z.1 z.2.1 z.2.2.1 k a.1 a.2) Oq gas (fun s s' h=>by cases s;cases s';cases h;rfl) (fun _ _ s=>by cases s <;> kernel_rfl) fun _ _ _=>by kernel_rfl
abbrev TAH:=ByteArray→Int→Option (List (List Int))
inductive Gy where
 | c0 (a:ByteArray) (b d:Int) (e:(List (List Int)))
def UAZ:Gy→LI
 | .c0 a b d e=>(tdo Tryz.f61 232,[vs 0 a,vi 1 b,vo 5 368,vi 7 d],[(368,.sl 38 e)])
def UAH (z0:RAH) (k:Gy→Option (List (List Int))) (a:ByteArray) (b:Int):Option (List (List Int)):=k (.c0 a b 0 [])
def Hy (z0:RAH) (k:Gy→Option (List (List Int))):Gy→Option (List (List Int))
 | .c0 d e a b=>cond (a<2) ((z0 d (w64 (e+a))).bind fun r0=>cond (((b.length+1)*24)≤140737488355328) (k (.c0 d e (w64 (a+1)) (b++[r0]))) none) (some b)
def Pq:Nat→Gy→Option (List (List Int))
 | 0,_=>none
 | m+1,s=>Hy Ey (Pq m) s
def Sl:TAH:=UAH Ey (Pq gas)
theorem VAZ:Tells ctx PP 61 cv10 cv27 (fun a=>Sl a.1 a.2):=fz (cc2 TAZ cn) Tryz.func61 [] UAZ (fun z=>Hy z.1) (fun z k a=>UAH z.1 k a.1 a.2) Pq gas (fun s s' h=>by cases s;cases s';cases h;rfl) (fun _ _ s=>by cases s <;> kernel_rfl) fun _ _ _=>by kernel_rfl
abbrev Bj:=(List Int)→Option Bool
inductive Iy where
 | c0 (a b:(List Int)) (d e:Int)
def WAZ:Iy→LI
 | .c0 a b d e=>(tdo Tryz.f109 104,[vr 0 3 a,vr 5 3 b,vi 6 d,vi 7 e],[])
def VAH (z0:Hf) (k:Iy→Option Bool) (a:(List Int)):Option Bool:=k (.c0 a a (a.length:Int) 0)
def SAA (z0:Hf) (k:Iy→Option Bool):Iy→Option Bool
 | .c0 d b e a=>cond (a<e) (cond (0≤a&&a<(b.length:Int)) ((z0 (b.getD a.toNat 0) 0 3328).bind fun r0=>cond (!r0) (some false) (k (.c0 d b e (w64 (a+1))))) none) (some ((d.length:Int) == 256))
def Qq:Nat→Iy→Option Bool
 | 0,_=>none
 | m+1,s=>SAA Me (Qq m) s
def Pg:Bj:=VAH Me (Qq gas)
theorem TAA:Tells ctx PP 109 cv29 cv4 (fun a=>Pg a):=fz (cc3 Ap cn) Tryz.func109 [] WAZ (fun z=>SAA z.1) (fun z k a=>VAH z.1 k a) Qq gas (fun s s' h=>by cases s;cases s';cases h;rfl) (fun _ _ s=>by cases s <;> kernel_rfl) fun _ _ _=>by kernel_rfl
abbrev WAH:=(List Int)→Option (List Int)
def XAH (a:(List Int)):Option (List Int):=cond ((a.length*8)≤140737488355328) (some a) none
def Jy:WAH:=XAH
theorem XAZ:Tells ctx PP 151 cv29 cv17 (fun a=>Jy a):=fz0 cn Tryz.func151 [] (fun _ a=>XAH a) fun _ _=>by kernel_rfl
abbrev Ky:=Int→Option Int
inductive Ny where
 | c0 (a b d:Int)
def YAZ:Ny→LI
 | .c0 a b d=>(tdo Tryz.f153 232,[vi 0 a,vi 3 b,vi 5 d],[])
def YAH (k:Ny→Option Int) (a:Int):Option Int:=k (.c0 a 0 0)
def UAA (k:Ny→Option Int):Ny→Option Int
 | .c0 b d a=>cond (a<7) (cond (0≤a) (k (.c0 b (w64 ((w64 (2*d))+(w64 (((BitVec.toNat ((BitVec.ofInt (IntKind.bits .i64) (Int.fdiv b (2 ^ (Min.min a.toNat (IntKind.bits .i64))))) &&& (BitVec.ofInt (IntKind.bits .i64) 1))):Nat):Int)))) (w64 (a+1)))) none) (some d)
def Rq:Nat→Ny→Option Int
 | 0,_=>none
 | m+1,s=>UAA (Rq m) s
def Ul:Ky:=YAH (Rq gas)
theorem WAQ:Tells ctx PP 153 cv1 cv1 (fun a=>Ul a):=fz cn Tryz.func153 [] YAZ (fun _=>UAA) (fun _ k a=>YAH k a) Rq gas (fun s s' h=>by cases s;cases s';cases h;rfl) (fun _ _ s=>by cases s <;> kernel_rfl) fun _ _ _=>by kernel_rfl
abbrev Oy:=Int→Int→Option Int
inductive Py where
 | c0 (a b d:Int)
def ZAZ:Py→LI
 | .c0 a b d=>(tdo Tryz.f152 992,[vi 0 a,vi 1 b,vi 5 d],[])
def ZAH (z0:Hf) (z1:Tf) (k:Py→Option Int) (b:Int) (a:Int):Option Int:=(z0 a 0 1000000000).bind fun r0=>cond (!r0) (some 0) ((z1 b).bind fun r1=>k (.c0 r1 a 1))
def AAI (z0:Hf) (z1:Tf) (k:Py→Option Int):Py→Option Int
 | .c0 a b d=>cond (b > 0) (cond ((b.tmod 2) == 1) (k (.c0 ((w64 (a*a)).tmod 3329) (w64 (b.tdiv 2)) ((w64 (d*a)).tmod 3329))) (k (.c0 ((w64 (a*a)).tmod 3329) (w64 (b.tdiv 2)) d))) (some d)
def Qy:Nat→Py→Option Int
 | 0,_=>none
 | m+1,s=>AAI Me Yd (Qy m) s
def Vl:Oy:=ZAH Me Yd (Qy gas)
theorem XAQ:Tells ctx PP 152 cv30 cv1 (fun a=>Vl a.1 a.2):=fz (cc3 Ap (cc1 Zx cn)) Tryz.func152 [] ZAZ (fun z=>AAI z.1 z.2.1) (fun z k a=>ZAH z.1 z.2.1 k a.1 a.2) Qy gas (fun s s' h=>by cases s;cases s';cases h;rfl) (fun _ _ s=>by cases s <;> kernel_rfl) fun _ _ _=>by kernel_rfl
abbrev BAI:=(List Int)→Option (List Int)
inductive Ry where
 | c0 (a b:Int) (d:(List Int))
 | c1 (a b e:Int) (d:(List Int))
 | c2 (a b:Int) (e f g:Int) (d:(List Int))
def AAa:Ry→LI
 | .c0 a b d=>(tdo Tryz.f107 2000,[vo 3 240,vi 4 a,vi 5 b],[(240,.sl 3 d)])
 | .c1 a b e d=>(tdo Tryz.f107 128144,[vo 3 240,vi 4 a,vi 5 b,vi 6 e],[(240,.sl 3 d)])
 | .c2 a b e f g d=>(tdo Tryz.f107 32805488,[vo 3 240,vi 4 a,vi 5 b,vi 6 e,vi 7 f,vi 8 g],[(240,.sl 3 d)])
def CAI (z0:Bj) (z1:WAH) (z2:Ky) (z3:Oy) (z4:Tf) (k:Ry→Option (List Int)) (a:(List Int)):Option (List Int):=(z0 a).bind fun r0=>cond (!r0) (some []) ((z1 a).bind fun r1=>k (.c0 1 128 r1))
def Cj (z0:Bj) (z1:WAH) (z2:Ky) (z3:Oy) (z4:Tf) (k:Ry→Option (List Int)):Ry→Option (List Int)
 | .c0 e b d=>cond (b≥2) (k (.c1 e b 0 d)) (some d)
 | .c1 e b f d=>cond (f<256) ((z2 e).bind fun r0=>(z3 17 r0).bind fun r1=>k (.c2 (w64 (e+1)) b f r1 f d)) (k (.c0 e (w64 (b.tdiv 2)) d))
 | .c2 e b f g a d=>cond (a<(w64 (f+b))) (cond (0≤(w64 (a+b))&&(w64 (a+b))<(d.length:Int)) (cond (0≤a&&a<(d.length:Int)) ((z4 (w64 ((d.getD a.toNat 0)+(w64 (g*(d.getD (w64 (a+b)).toNat 0)))))).bind fun r0=>cond (0≤a&&a<(d.length:Int)) ((z4 (w64 ((d.getD a.toNat 0) - (w64 (g*(d.getD (w64 (a+b)).toNat 0)))))).bind fun r1=>cond (0≤a&&a<(d.length:Int)) (cond (0≤(w64 (a+b))&&(w64 (a+b))<((d.set a.toNat r0).length:Int)) (k (.c2 e b f g (w64 (a+1)) ((d.set a.toNat r0).set (w64 (a+b)).toNat r1))) none) none) none) none) none) (k (.c1 e b (w64 (f+(w64 (2*b)))) d))
def Ad:Nat→Ry→Option (List Int)
 | 0,_=>none
 | m+1,s=>Cj Pg Jy Ul Vl Yd (Ad m) s
def Uy:BAI:=CAI Pg Jy Ul Vl Yd (Ad gas)
theorem BAa:Tells ctx PP 107 cv29 cv17 (fun a=>Uy a):=fz (cc1 TAA (cc1 XAZ (cc1 WAQ (cc2 XAQ (cc1 Zx cn))))) Tryz.func107 [] AAa (fun z=>Cj z.1 z.2.1 z.2.2.1 z.2.2.2.1 z.2.2.2.2.1) (fun z k a=>CAI z.1 z.2.1 z.2.2.1 z.2.2.2.1 z.2.2.2.2.1 k a) Ad gas (fun s s' h=>by cases s <;> cases s' <;> first | (cases h;done) | (cases h;rfl) | exact (rg_ne h (by kernel_rfl)).elim) (fun _ _ s=>by cases s <;> kernel_rfl) fun _ _ _=>by kernel_rfl
abbrev DAI:=(List (List Int))→Option (List (List Int))
inductive Vy where
 | c0 (a:(List (List Int))) (b d:Int) (e:(List (List Int)))
def CAa:Vy→LI
 | .c0 a b d e=>(tdo Tryz.f60 232,[vo 3 240,vr 6 38 a,vi 7 b,vi 8 d],[(240,.sl 38 e)])
def EAI (z0:BAI) (k:Vy→Option (List (List Int))) (a:(List (List Int))):Option (List (List Int)):=k (.c0 a (a.length:Int) 0 [])
def Wy (z0:BAI) (k:Vy→Option (List (List Int))):Vy→Option (List (List Int))
 | .c0 b e a d=>cond (a<e) (cond (0≤a&&a<(b.length:Int)) ((z0 (b.getD a.toNat [])).bind fun r0=>cond (((d.length+1)*24)≤140737488355328) (k (.c0 b e (w64 (a+1)) (d++[r0]))) none) none) (some d)
def Tq:Nat→Vy→Option (List (List Int))
 | 0,_=>none
 | m+1,s=>Wy Uy (Tq m) s
def Wl:DAI:=EAI Uy (Tq gas)
theorem DAa:Tells ctx PP 60 cv45 cv27 (fun a=>Wl a):=fz (cc1 BAa cn) Tryz.func60 [] CAa (fun z=>Wy z.1) (fun z k a=>EAI z.1 k a) Tq gas (fun s s' h=>by cases s;cases s';cases h;rfl) (fun _ _ s=>by cases s <;> kernel_rfl) fun _ _ _=>by kernel_rfl
abbrev FAI:=ByteArray→Int→Int→Option (List Int)
inductive Xy where
 | c0 (a b:Int) (d:SStream) (e:(List Int))
 | c1 (a b:Int) (f g:Int) (d:SStream) (e h:(List Int))
def EAa:Xy→LI
 | .c0 b d a e=>(tdo Tryz.f114 2000,[vp 7 448,vo 8 560,vi 9 b,vi 10 d],[(448,.var [.str a.fState,li a.fAt]),(560,.sl 3 e)])
 | .c1 b d f g a e h=>(tdo Tryz.f114 512632,[vp 7 448,vo 8 560,vi 9 b,vi 10 d,vo 60 3888,vi 61 f,vi 62 g],[(448,.var [.str a.fState,li a.fAt]),(560,.sl 3 e),(3888,.sl 3 h)])
def GAI (z0:Jf) (z1:PAA) (z2:QAA) (k:Xy→Option (List Int)) (a:ByteArray) (b:Int) (d:Int):Option (List Int):=(z0 b).bind fun r0=>cond ((a.size+r0.size)≤9223372036854775807) ((z0 d).bind fun r1=>cond (((a++r0).size+r1.size)≤9223372036854775807) ((z1 ((a++r0)++r1)).bind fun r2=>k (.c0 0 0 r2 (List.replicate (256:Int).toNat (0:Int)))) none) none
def Vq (z0:Jf) (z1:PAA) (z2:QAA) (k:Xy→Option (List Int)):Xy→Option (List Int)
 | .c0 a e f b=>cond (e<4000) (cond (a<256) ((z2 f 3).bind fun r0=>cond (0≤(0:Int)&&0<(r0.2.size:Int)) (cond (0≤(1:Int)&&1<(r0.2.size:Int)) (cond (0≤(2:Int)&&2<(r0.2.size:Int)) (k (.c1 a e ((2:Nat):Int) 0 r0.1 b [w64 ((w64 (bt r0.2 0))+(w64 (((w64 (bt r0.2 1)).tmod 16)*256))),w64 ((w64 ((w64 (bt r0.2 1)).tdiv 16))+(w64 (16*(w64 (bt r0.2 2)))))])) none) none) none) (some b)) (some b)
 | .c1 a e h d f b g=>cond (d<h) (cond (0≤d&&d<(g.length:Int)) (cond ((g.getD d.toNat 0)<3329) (cond (a<256) (cond (0≤a&&a<(b.length:Int)) (k (.c1 (w64 (a+1)) e h (w64 (d+1)) f (b.set a.toNat (g.getD d.toNat 0)) g)) none) (k (.c1 a e h (w64 (d+1)) f b g))) (k (.c1 a e h (w64 (d+1)) f b g))) none) (k (.c0 a (w64 (e+1)) f b))
def Qe:Nat→Xy→Option (List Int)
 | 0,_=>none
 | m+1,s=>Vq Qc Jq Rl (Qe m) s
def Xl:FAI:=GAI Qc Jq Rl (Qe gas)
theorem FAa:Tells ctx PP 114 cv26 cv17 (fun a=>Xl a.1 a.2.1 a.2.2):=fz (cc1 Ep (cc1 UAQ (cc2 VAQ cn))) Tryz.func114 [] EAa (fun z=>Vq z.1 z.2.1 z.2.2.1) (fun z k a=>GAI z.1 z.2.1 z.2.2.1 k a.1 a.2.1 a.2.2) Qe gas (fun s s' h=>by cases s <;> cases s' <;> first | ((repeat cases ‹SStream›);cases h;done) | ((repeat cases ‹SStream›);cases h;rfl) | exact (rg_ne h (by kernel_rfl)).elim) (fun _ _ s=>by cases s <;> kernel_rfl) fun _ _ _=>by kernel_rfl
abbrev HAI:=ByteArray→Int→Bool→Option (List (List Int))
inductive Yy where
 | c0 (a:ByteArray) (b:Int) (d:Bool) (e:Int) (f:(List (List Int)))
def GAa:Yy→LI
 | .c0 a b d e f=>(tdo Tryz.f65 232,[vs 0 a,vi 1 b,vb 2 d,vo 7 496,vi 9 e],[(496,.sl 38 f)])
def IAI (z0:FAI) (k:Yy→Option (List (List Int))) (a:ByteArray) (b:Int) (d:Bool):Option (List (List Int)):=k (.c0 a b d 0 [])
def Zy (z0:FAI) (k:Yy→Option (List (List Int))):Yy→Option (List (List Int))
 | .c0 d e f a b=>cond (a<2) (cond f ((z0 d e a).bind fun r0=>cond (((b.length+1)*24)≤140737488355328) (k (.c0 d e f (w64 (a+1)) (b++[r0]))) none) ((z0 d a e).bind fun r1=>cond (((b.length+1)*24)≤140737488355328) (k (.c0 d e f (w64 (a+1)) (b++[r1]))) none)) (some b)
def Wq:Nat→Yy→Option (List (List Int))
 | 0,_=>none
 | m+1,s=>Zy Xl (Wq m) s
def Yl:HAI:=IAI Xl (Wq gas)
theorem HAa:Tells ctx PP 65 cv46 cv27 (fun a=>Yl a.1 a.2.1 a.2.2):=fz (cc3 FAa cn) Tryz.func65 [] GAa (fun z=>Zy z.1) (fun z k a=>IAI z.1 k a.1 a.2.1 a.2.2) Wq gas (fun s s' h=>by cases s;cases s';cases h;rfl) (fun _ _ s=>by cases s <;> kernel_rfl) fun _ _ _=>by kernel_rfl
abbrev JAI:=(List Int)→(List Int)→Option (List Int)
inductive Az where
 | c0 (a b:(List Int)) (d:Int) (e:(List Int))
def IAa:Az→LI
 | .c0 a b d e=>(tdo Tryz.f113 488,[vr 0 3 a,vr 1 3 b,vo 5 368,vi 21 d],[(368,.sl 3 e)])
def KAI (z0:Bj) (z1:Ky) (z2:Oy) (z3:Tf) (k:Az→Option (List Int)) (a:(List Int)) (b:(List Int)):Option (List Int):=(z0 a).bind fun r0=>cond (!r0) (some []) ((z0 b).bind fun r1=>cond (!r1) (some []) (k (.c0 a b 0 (List.replicate (256:Int).toNat (0:Int)))))
def VAA (z0:Bj) (z1:Ky) (z2:Oy) (z3:Tf) (k:Az→Option (List Int)):Az→Option (List Int)
 | .c0 b d a e=>cond (a<128) ((z1 a).bind fun r0=>(z2 17 (w64 ((w64 (2*r0))+1))).bind fun r1=>cond (0≤(w64 (2*a))&&(w64 (2*a))<(b.length:Int)) (cond (0≤(w64 ((w64 (2*a))+1))&&(w64 ((w64 (2*a))+1))<(b.length:Int)) (cond (0≤(w64 (2*a))&&(w64 (2*a))<(d.length:Int)) (cond (0≤(w64 ((w64 (2*a))+1))&&(w64 ((w64 (2*a))+1))<(d.length:Int)) ((z3 (w64 ((w64 ((b.getD (w64 (2*a)).toNat 0)*(d.getD (w64 (2*a)).toNat 0)))+(w64 (((w64 ((b.getD (w64 ((w64 (2*a))+1)).toNat 0)*(d.getD (w64 ((w64 (2*a))+1)).toNat 0))).tmod 3329)*r1))))).bind fun r2=>cond (0≤(w64 (2*a))&&(w64 (2*a))<(e.length:Int)) ((z3 (w64 ((w64 ((b.getD (w64 (2*a)).toNat 0)*(d.getD (w64 ((w64 (2*a))+1)).toNat 0)))+(w64 ((b.getD (w64 ((w64 (2*a))+1)).toNat 0)*(d.getD (w64 (2*a)).toNat 0)))))).bind fun r3=>cond (0≤(w64 ((w64 (2*a))+1))&&(w64 ((w64 (2*a))+1))<((e.set (w64 (2*a)).toNat r2).length:Int)) (k (.c0 b d (w64 (a+1)) ((e.set (w64 (2*a)).toNat r2).set (w64 ((w64 (2*a))+1)).toNat r3))) none) none) none) none) none) none) (some e)
def Xq:Nat→Az→Option (List Int)
 | 0,_=>none
 | m+1,s=>VAA Pg Ul Vl Yd (Xq m) s
def Bz:JAI:=KAI Pg Ul Vl Yd (Xq gas)
theorem JAa:Tells ctx PP 113 cv32 cv17 (fun a=>Bz a.1 a.2):=fz (cc1 TAA (cc1 WAQ (cc2 XAQ (cc1 Zx cn)))) Tryz.func113 [] IAa (fun z=>VAA z.1 z.2.1 z.2.2.1 z.2.2.2.1) (fun z k a=>KAI z.1 z.2.1 z.2.2.1 z.2.2.2.1 k a.1 a.2) Xq gas (fun s s' h=>by cases s;cases s';cases h;rfl) (fun _ _ s=>by cases s <;> kernel_rfl) fun _ _ _=>by kernel_rfl
abbrev LAI:=Int→Int→Option Int
def MAI (a:Int) (b:Int):Option Int:=some (w64 (a+b))
def WAA:LAI:=MAI
theorem KAa:Tells ctx PP 112 cv30 cv1 (fun a=>WAA a.1 a.2):=fz0 cn Tryz.func112 [] (fun _ a=>MAI a.1 a.2) fun _ _=>by kernel_rfl
abbrev NAI:=Int→Int→Option Int
def YAQ (a:Int) (b:Int):Option Int:=some (w64 (a - b))
def OAI:NAI:=YAQ
theorem LAa:Tells ctx PP 271 cv30 cv1 (fun a=>OAI a.1 a.2):=fz0 cn Tryz.func271 [] (fun _ a=>YAQ a.1 a.2) fun _ _=>by kernel_rfl
abbrev ZAQ:=(List Int)→(List Int)→Nat→Option (List Int)
inductive Dz where
 | c0 (a b:(List Int)) (d:Nat) (e f:Int) (g:(List Int))
def MAa:Dz→LI
 | .c0 a b d e f g=>(tdo Tryz.f111 488,[vr 0 3 a,vr 1 3 b,(2,[.one (.fn d)]),vo 7 496,vi 19 e,vi 20 f],[(496,.sl 3 g)])
def PAI (z0:Bj) (z1:LAI) (z2:NAI) (z3:Tf) (k:Dz→Option (List Int)) (a:(List Int)) (b:(List Int)) (d:Nat):Option (List Int):=(z0 a).bind fun r0=>cond (!r0) (some []) ((z0 b).bind fun r1=>cond (!r1) (some []) (k (.c0 a b d ((List.replicate (256:Int).toNat (0:Int)).length:Int) 0 (List.replicate (256:Int).toNat (0:Int)))))
def XAA (z0:Bj) (z1:LAI) (z2:NAI) (z3:Tf) (k:Dz→Option (List Int)):Dz→Option (List Int)
 | .c0 d e b g a f=>cond (a<g) (cond (0≤a&&a<(d.length:Int)) (cond (0≤a&&a<(e.length:Int)) (cond (Nat.beq b 112) ((z1 (d.getD a.toNat 0) (e.getD a.toNat 0)).bind fun r0=>(z3 r0).bind fun r1=>cond (0≤a&&a<(f.length:Int)) (k (.c0 d e b g (w64 (a+1)) (f.set a.toNat r1))) none) (cond (Nat.beq b 202) none (cond (Nat.beq b 203) none (cond (Nat.beq b 271) ((z2 (d.getD a.toNat 0) (e.getD a.toNat 0)).bind fun r2=>(z3 r2).bind fun r3=>cond (0≤a&&a<(f.length:Int)) (k (.c0 d e b g (w64 (a+1)) (f.set a.toNat r3))) none) none)))) none) none) (some f)
def Yq:Nat→Dz→Option (List Int)
 | 0,_=>none
 | m+1,s=>XAA Pg WAA OAI Yd (Yq m) s
def YAA:ZAQ:=PAI Pg WAA OAI Yd (Yq gas)
theorem NAa:Tells ctx PP 111 cv47 cv17 (fun a=>YAA a.1 a.2.1 a.2.2):=fz (cc1 TAA (cc2 KAa (cc2 LAa (cc1 Zx cn)))) Tryz.func111 [] MAa (fun z=>XAA z.1 z.2.1 z.2.2.1 z.2.2.2.1) (fun z k a=>PAI z.1 z.2.1 z.2.2.1 z.2.2.2.1 k a.1 a.2.1 a.2.2) Yq gas (fun s s' h=>by cases s;cases s';cases h;rfl) (fun _ _ s=>by cases s <;> kernel_rfl) fun _ _ _=>by kernel_rfl
abbrev Ez:=(List Int)→(List Int)→Option (List Int)
def QAI (z0:ZAQ) (a:(List Int)) (b:(List Int)):Option (List Int):=(z0 a b 112).bind fun r0=>some r0
def Qg:Ez:=QAI YAA
theorem AAR:Tells ctx PP 63 cv32 cv17 (fun a=>Qg a.1 a.2):=fz0 (cc3 NAa cn) Tryz.func63 [] (fun z a=>QAI z.1 a.1 a.2) fun _ _=>by kernel_rfl
abbrev RAI:=(List (List Int))→(List (List Int))→Option (List Int)
inductive Fz where
 | c0 (a:(List (List Int))) (b:(List (List Int))) (d e:Int) (f:(List Int))
def OAa:Fz→LI
 | .c0 a b d e f=>(tdo Tryz.f64 232,[vr 0 38 a,vr 1 38 b,vo 5 368,vi 9 d,vi 10 e],[(368,.sl 3 f)])
def SAI (z0:JAI) (z1:Ez) (k:Fz→Option (List Int)) (a:(List (List Int))) (b:(List (List Int))):Option (List Int):=k (.c0 a b (a.length:Int) 0 (List.replicate (256:Int).toNat (0:Int)))
def Gz (z0:JAI) (z1:Ez) (k:Fz→Option (List Int)):Fz→Option (List Int)
 | .c0 b d e a f=>cond (a<e) (cond (0≤a&&a<(b.length:Int)) (cond (0≤a&&a<(d.length:Int)) ((z0 (b.getD a.toNat []) (d.getD a.toNat [])).bind fun r0=>(z1 f r0).bind fun r1=>k (.c0 b d e (w64 (a+1)) r1)) none) none) (some f)
def Zq:Nat→Fz→Option (List Int)
 | 0,_=>none
 | m+1,s=>Gz Bz Qg (Zq m) s
def Ar:RAI:=SAI Bz Qg (Zq gas)
theorem PAa:Tells ctx PP 64 cv33 cv17 (fun a=>Ar a.1 a.2):=fz (cc2 JAa (cc2 AAR cn)) Tryz.func64 [] OAa (fun z=>Gz z.1 z.2.1) (fun z k a=>SAI z.1 z.2.1 k a.1 a.2) Zq gas (fun s s' h=>by cases s;cases s';cases h;rfl) (fun _ _ s=>by cases s <;> kernel_rfl) fun _ _ _=>by kernel_rfl
abbrev CAR:=(List Int)→Int→Option ByteArray
inductive Hz where
 | c0 (a:Int) (b:(List Int)) (d e:Int) (f:(List Int))
 | c1 (a g h:Int) (b:(List Int)) (d e:Int) (i j:Int) (f:(List Int))
def QAa:Hz→LI
 | .c0 a b d e f=>(tdo Tryz.f110 232,[vi 1 a,vo 5 368,vr 17 3 b,vi 18 d,vi 19 e],[(368,.sl 5 f)])
 | .c1 a g h b d e i j f=>(tdo Tryz.f110 59800,[vi 1 a,vo 5 368,vi 6 g,vi 7 h,vr 17 3 b,vi 18 d,vi 19 e,vi 24 i,vi 25 j],[(368,.sl 5 f)])
def TAI (k:Hz→Option ByteArray) (a:(List Int)) (b:Int):Option ByteArray:=cond ((((decide (0≤(w64 ((w64 ((w64 ((a.length:Int)*b))+7)).tdiv 8)))) && (decide ((w64 ((w64 ((w64 ((a.length:Int)*b))+7)).tdiv 8))≤(w64 ((w64 ((w64 ((a.length:Int)*b))+7)).tdiv 8))))) && (decide ((w64 ((w64 ((w64 ((a.length:Int)*b))+7)).tdiv 8))≤9223372036854775807))) && (decide (((w64 ((w64 ((w64 ((a.length:Int)*b))+7)).tdiv 8)).toNat*1)≤140737488355328))) (k (.c0 b a (a.length:Int) 0 (List.replicate (w64 ((w64 ((w64 ((a.length:Int)*b))+7)).tdiv 8)).toNat (0:Int)))) none
def Hr (k:Hz→Option ByteArray):Hz→Option ByteArray
 | .c0 a g h d f=>cond (d<h) (cond (0≤d&&d<(g.length:Int)) (k (.c1 a d (g.getD d.toNat 0) g h d a 0 f)) none) (some (ofBytes f))
 | .c1 a e i g h d j b f=>cond (b<j) (cond (0≤(w64 ((w64 ((w64 (e*a))+b)).tdiv 8))&&(w64 ((w64 ((w64 (e*a))+b)).tdiv 8))<(f.length:Int)) (cond (0≤b) (cond (0≤((w64 ((w64 (e*a))+b)).tmod 8)) (cond (0≤(w64 ((w64 ((w64 (e*a))+b)).tdiv 8))&&(w64 ((w64 ((w64 (e*a))+b)).tdiv 8))<(f.length:Int)) (k (.c1 a e i g h d j (w64 (b+1)) (f.set (w64 ((w64 ((w64 (e*a))+b)).tdiv 8)).toNat (w8 (((BitVec.toNat ((BitVec.ofInt (IntKind.bits .u8) (f.getD (w64 ((w64 ((w64 (e*a))+b)).tdiv 8)).toNat 0)) ||| (BitVec.ofInt (IntKind.bits .u8) (w8 ((w8 (w64 (((BitVec.toNat ((BitVec.ofInt (IntKind.bits .i64) (Int.fdiv i (2 ^ (Min.min b.toNat (IntKind.bits .i64))))) &&& (BitVec.ofInt (IntKind.bits .i64) 1))):Nat):Int)))*(2 ^ (Min.min ((w64 ((w64 (e*a))+b)).tmod 8).toNat (IntKind.bits .u8)))))))):Nat):Int))))) none) none) none) none) (k (.c0 a g h (w64 (d+1)) f))
def Yh:Nat→Hz→Option ByteArray
 | 0,_=>none
 | m+1,s=>Hr (Yh m) s
def ZAA:CAR:=TAI (Yh gas)
theorem RAa:Tells ctx PP 110 cv31 cv8 (fun a=>ZAA a.1 a.2):=fz cn Tryz.func110 [] QAa (fun _=>Hr) (fun _ k a=>TAI k a.1 a.2) Yh gas (fun s s' h=>by cases s <;> cases s' <;> first | (cases h;done) | (cases h;rfl) | exact (rg_ne h (by kernel_rfl)).elim) (fun _ _ s=>by cases s <;> kernel_rfl) fun _ _ _=>by kernel_rfl
abbrev UAI:=(List Int)→Option ByteArray
def VAI (z0:Bj) (z1:CAR) (a:(List Int)):Option ByteArray:=(z0 a).bind fun r0=>cond (!r0) (some ⟨#[]⟩) ((z1 a 12).bind fun r1=>some r1)
def Zl:UAI:=VAI Pg ZAA
theorem SAa:Tells ctx PP 62 cv29 cv8 (fun a=>Zl a):=fz0 (cc1 TAA (cc2 RAa cn)) Tryz.func62 [] (fun z a=>VAI z.1 z.2.1 a) fun _ _=>by kernel_rfl
abbrev DAR:=ByteArray→Option (SPair×Bool)
inductive Iz where
 | c0 (a b:ByteArray) (d e:ByteArray) (f:Int) (g:SPair) (h:(List (List Int))) (i:(List (List Int)))
def TAa:Iz→LI
 | .c0 b d e f g a h i=>(tdo Tryz.f25 4072,[vp 2 128,vs 4 b,vs 5 d,vo 7 496,vo 8 560,vs 9 e,vs 10 f,vi 30 g],[(128,.var [.str a.fPublic,.str a.fSecret]),(496,.sl 38 h),(560,.sl 38 i)])
def WAI (z0:GAA) (z1:TAH) (z2:DAI) (z3:HAI) (z4:RAI) (z5:Ez) (z6:UAI) (k:Iz→Option (SPair×Bool)) (a:ByteArray):Option (SPair×Bool):=cond ((a.size:Int) != 32) (some (⟨⟨#[]⟩,⟨#[]⟩⟩,false)) ((z0 a).bind fun r0=>cond ((r0.size+(⟨#[114]⟩:ByteArray).size)≤9223372036854775807) ((z0 (r0++(⟨#[114]⟩:ByteArray))).bind fun r1=>cond ((r0.size+(⟨#[115]⟩:ByteArray).size)≤9223372036854775807) ((z0 (r0++(⟨#[115]⟩:ByteArray))).bind fun r2=>(z1 r2 0).bind fun r3=>(z2 r3).bind fun r4=>(z1 r2 2).bind fun r5=>(z2 r5).bind fun r6=>k (.c0 r0 r1 ⟨#[]⟩ ⟨#[]⟩ 0 ⟨⟨#[]⟩,⟨#[]⟩⟩ r4 r6)) none) none)
def Jz (z0:GAA) (z1:TAH) (z2:DAI) (z3:HAI) (z4:RAI) (z5:Ez) (z6:UAI) (k:Iz→Option (SPair×Bool)):Iz→Option (SPair×Bool)
 | .c0 g a b e d i f h=>cond (d<2) ((z3 a d false).bind fun r0=>(z4 r0 f).bind fun r1=>cond (0≤d&&d<(h.length:Int)) ((z5 r1 (h.getD d.toNat [])).bind fun r2=>(z6 r2).bind fun r3=>cond ((b.size+r3.size)≤9223372036854775807) (cond (0≤d&&d<(f.length:Int)) ((z6 (f.getD d.toNat [])).bind fun r4=>cond ((e.size+r4.size)≤9223372036854775807) (k (.c0 g a (b++r3) (e++r4) (w64 (d+1)) i f h)) none) none) none) none) (cond ((b.size+a.size)≤9223372036854775807) (cond ((e.size+(b++a).size)≤9223372036854775807) ((z0 (b++a)).bind fun r5=>cond (((e++(b++a)).size+r5.size)≤9223372036854775807) (cond ((g.size+(⟨#[122]⟩:ByteArray).size)≤9223372036854775807) ((z0 (g++(⟨#[122]⟩:ByteArray))).bind fun r6=>cond ((((e++(b++a))++r5).size+r6.size)≤9223372036854775807) (some (⟨b++a,((e++(b++a))++r5)++r6⟩,true)) none) none) none) none) none)
def Ir:Nat→Iz→Option (SPair×Bool)
 | 0,_=>none
 | m+1,s=>Jz Og Sl Wl Yl Ar Qg Zl (Ir m) s
def AAB:DAR:=WAI Og Sl Wl Yl Ar Qg Zl (Ir gas)
theorem UAa:Tells ctx PP 25 cv8 cv34 (fun a=>AAB a):=fz (cc1 JAQ (cc2 VAZ (cc1 DAa (cc3 HAa (cc2 PAa (cc2 AAR (cc1 SAa cn))))))) Tryz.func25 [] TAa (fun z=>Jz z.1 z.2.1 z.2.2.1 z.2.2.2.1 z.2.2.2.2.1 z.2.2.2.2.2.1 z.2.2.2.2.2.2.1) (fun z k a=>WAI z.1 z.2.1 z.2.2.1 z.2.2.2.1 z.2.2.2.2.1 z.2.2.2.2.2.1 z.2.2.2.2.2.2.1 k a) Ir gas (fun s s' h=>by cases s;cases s';(repeat cases ‹SPair›);cases h;rfl) (fun _ _ s=>by cases s <;> kernel_rfl) fun _ _ _=>by kernel_rfl
abbrev Ej:=ByteArray→Option ByteArray
def XAI (z0:GAA) (a:ByteArray):Option ByteArray:=(z0 a).bind fun r0=>cond (0≤(4:Int)&&4≤(r0.size:Int)) (some (r0.extract 0 (4:Int).toNat)) none
def Zd:Ej:=XAI Og
theorem BAB:Tells ctx PP 204 cv8 cv8 (fun a=>Zd a):=fz0 (cc1 JAQ cn) Tryz.func204 [] (fun z a=>XAI z.1 a) fun _ _=>by kernel_rfl
abbrev YAI:=ByteArray→Int→Option (List ByteArray)
inductive Kz where
 | c0 (a:ByteArray) (b d:Int) (e:(List ByteArray))
def VAa:Kz→LI
 | .c0 a b d e=>(tdo Tryz.f160 232,[vs 0 a,vi 1 b,vo 5 368,vi 7 d],[(368,.sl 9 e)])
def ZAI (z0:Jf) (z1:Ej) (k:Kz→Option (List ByteArray)) (a:ByteArray) (b:Int):Option (List ByteArray):=k (.c0 a b 0 [])
def CAB (z0:Jf) (z1:Ej) (k:Kz→Option (List ByteArray)):Kz→Option (List ByteArray)
 | .c0 a e b d=>cond (b<10) ((z0 e).bind fun r0=>cond ((a.size+r0.size)≤9223372036854775807) ((z0 b).bind fun r1=>cond (((a++r0).size+r1.size)≤9223372036854775807) (cond ((((a++r0)++r1).size+(⟨#[111]⟩:ByteArray).size)≤9223372036854775807) ((z1 (((a++r0)++r1)++(⟨#[111]⟩:ByteArray))).bind fun r2=>cond (((d.length+1)*16)≤140737488355328) (k (.c0 a e (w64 (b+1)) (d++[r2]))) none) none) none) none) (some d)
def Am:Nat→Kz→Option (List ByteArray)
 | 0,_=>none
 | m+1,s=>CAB Qc Zd (Am m) s
def Nz:YAI:=ZAI Qc Zd (Am gas)
theorem WAa:Tells ctx PP 160 cv10 cv35 (fun a=>Nz a.1 a.2):=fz (cc1 Ep (cc1 BAB cn)) Tryz.func160 [] VAa (fun z=>CAB z.1 z.2.1) (fun z k a=>ZAI z.1 z.2.1 k a.1 a.2) Am gas (fun s s' h=>by cases s;cases s';cases h;rfl) (fun _ _ s=>by cases s <;> kernel_rfl) fun _ _ _=>by kernel_rfl
abbrev AAJ:=Int→Option Int
def BAJ (a:Int):Option Int:=some 0
def DAB:AAJ:=BAJ
theorem XAa:Tells ctx PP 202 cv1 cv1 (fun a=>DAB a):=fz0 cn Tryz.func202 [] (fun _ a=>BAJ a) fun _ _=>by kernel_rfl
abbrev CAJ:=Int→Option Int
def DAJ (a:Int):Option Int:=some 15
def EAB:CAJ:=DAJ
theorem YAa:Tells ctx PP 203 cv1 cv1 (fun a=>EAB a):=fz0 cn Tryz.func203 [] (fun _ a=>DAJ a) fun _ _=>by kernel_rfl
abbrev EAJ:=ByteArray→Int→Int→Int→Int→Option ByteArray
inductive Oz where
 | c0 (a:ByteArray) (b d:Int) (e f g:Int)
def ZAa:Oz→LI
 | .c0 a b d e f g=>(tdo Tryz.f226 104,[vs 0 a,vi 1 b,vi 2 d,vi 3 e,vi 13 f,vi 14 g],[])
def FAJ (z0:Jf) (z1:Ej) (k:Oz→Option ByteArray) (b:ByteArray) (d:Int) (e:Int) (f:Int) (a:Int):Option ByteArray:=k (.c0 b d e f (ite (15<a) 15 a) 0)
def FAB (z0:Jf) (z1:Ej) (k:Oz→Option ByteArray):Oz→Option ByteArray
 | .c0 a d e f g b=>cond (b<g) ((z0 d).bind fun r0=>(z0 e).bind fun r1=>cond ((r0.size+r1.size)≤9223372036854775807) ((z0 (w64 (f+b))).bind fun r2=>cond (((r0++r1).size+r2.size)≤9223372036854775807) (cond ((((r0++r1)++r2).size+a.size)≤9223372036854775807) ((z1 (((r0++r1)++r2)++a)).bind fun r3=>k (.c0 r3 d e f g (w64 (b+1)))) none) none) none) (some a)
def Jr:Nat→Oz→Option ByteArray
 | 0,_=>none
 | m+1,s=>FAB Qc Zd (Jr m) s
def Kr:EAJ:=FAJ Qc Zd (Jr gas)
theorem AAb:Tells ctx PP 226 cv36 cv8 (fun a=>Kr a.1 a.2.1 a.2.2.1 a.2.2.2.1 a.2.2.2.2):=fz (cc1 Ep (cc1 BAB cn)) Tryz.func226 [] ZAa (fun z=>FAB z.1 z.2.1) (fun z k a=>FAJ z.1 z.2.1 k a.1 a.2.1 a.2.2.1 a.2.2.2.1 a.2.2.2.2) Jr gas (fun s s' h=>by cases s;cases s';cases h;rfl) (fun _ _ s=>by cases s <;> kernel_rfl) fun _ _ _=>by kernel_rfl
abbrev EAR:=(List ByteArray)→Int→Nat→Nat→Option ByteArray
inductive Pz where
 | c0 (a:Int) (b d:Nat) (e:ByteArray) (f:(List ByteArray)) (g h:Int)
def BAb:Pz→LI
 | .c0 a b d e f g h=>(tdo Tryz.f201 488,[vi 1 a,(2,[.one (.fn b)]),(3,[.one (.fn d)]),vs 9 e,vr 15 9 f,vi 16 g,vi 17 h],[])
def GAJ (z0:AAJ) (z1:CAJ) (z2:EAJ) (z3:Ej) (k:Pz→Option ByteArray) (a:(List ByteArray)) (b:Int) (d:Nat) (e:Nat):Option ByteArray:=cond ((a.length:Int) != 10) (some ⟨#[]⟩) (k (.c0 b d e ⟨#[]⟩ a (a.length:Int) 0))
def GAB (z0:AAJ) (z1:CAJ) (z2:EAJ) (z3:Ej) (k:Pz→Option ByteArray):Pz→Option ByteArray
 | .c0 f g b d e h a=>cond (a<h) (cond (0≤a&&a<(e.length:Int)) (cond (Nat.beq g 112) none (cond (Nat.beq g 202) ((z0 a).bind fun r0=>cond (Nat.beq b 112) none (cond (Nat.beq b 202) ((z0 a).bind fun r1=>(z2 (e.getD a.toNat (⟨#[]⟩:ByteArray)) f a r0 r1).bind fun r2=>cond ((d.size+r2.size)≤9223372036854775807) (k (.c0 f g b (d++r2) e h (w64 (a+1)))) none) (cond (Nat.beq b 203) ((z1 a).bind fun r3=>(z2 (e.getD a.toNat (⟨#[]⟩:ByteArray)) f a r0 r3).bind fun r4=>cond ((d.size+r4.size)≤9223372036854775807) (k (.c0 f g b (d++r4) e h (w64 (a+1)))) none) (cond (Nat.beq b 271) none none)))) (cond (Nat.beq g 203) ((z1 a).bind fun r5=>cond (Nat.beq b 112) none (cond (Nat.beq b 202) ((z0 a).bind fun r6=>(z2 (e.getD a.toNat (⟨#[]⟩:ByteArray)) f a r5 r6).bind fun r7=>cond ((d.size+r7.size)≤9223372036854775807) (k (.c0 f g b (d++r7) e h (w64 (a+1)))) none) (cond (Nat.beq b 203) ((z1 a).bind fun r8=>(z2 (e.getD a.toNat (⟨#[]⟩:ByteArray)) f a r5 r8).bind fun r9=>cond ((d.size+r9.size)≤9223372036854775807) (k (.c0 f g b (d++r9) e h (w64 (a+1)))) none) (cond (Nat.beq b 271) none none)))) (cond (Nat.beq g 271) none none)))) none) ((z3 d).bind fun r10=>some r10)
def Fj:Nat→Pz→Option ByteArray
 | 0,_=>none
 | m+1,s=>GAB DAB EAB Kr Zd (Fj m) s
def HAJ:EAR:=GAJ DAB EAB Kr Zd (Fj gas)
theorem CAb:Tells ctx PP 201 cv48 cv8 (fun a=>HAJ a.1 a.2.1 a.2.2.1 a.2.2.2):=fz (cc1 XAa (cc1 YAa (cc5 AAb (cc1 BAB cn)))) Tryz.func201 [] BAb (fun z=>GAB z.1 z.2.1 z.2.2.1 z.2.2.2.1) (fun z k a=>GAJ z.1 z.2.1 z.2.2.1 z.2.2.2.1 k a.1 a.2.1 a.2.2.1 a.2.2.2) Fj gas (fun s s' h=>by cases s;cases s';cases h;rfl) (fun _ _ s=>by cases s <;> kernel_rfl) fun _ _ _=>by kernel_rfl
abbrev IAJ:=(List ByteArray)→Int→Option ByteArray
def JAJ (z0:EAR) (a:(List ByteArray)) (b:Int):Option ByteArray:=(z0 a b 202 203).bind fun r0=>some r0
def Qz:IAJ:=JAJ HAJ
theorem DAb:Tells ctx PP 159 cv37 cv8 (fun a=>Qz a.1 a.2):=fz0 (cc4 CAb cn) Tryz.func159 [] (fun z a=>JAJ z.1 a.1 a.2) fun _ _=>by kernel_rfl
abbrev GAR:=ByteArray→Option (List ByteArray)
inductive Rz where
 | c0 (a:ByteArray) (b:Int) (d:(List ByteArray))
def EAb:Rz→LI
 | .c0 a b d=>(tdo Tryz.f116 232,[vs 0 a,vo 3 240,vi 5 b],[(240,.sl 9 d)])
def KAJ (z0:YAI) (z1:IAJ) (k:Rz→Option (List ByteArray)) (a:ByteArray):Option (List ByteArray):=k (.c0 a 0 [])
def IAB (z0:YAI) (z1:IAJ) (k:Rz→Option (List ByteArray)):Rz→Option (List ByteArray)
 | .c0 d a b=>cond (a<4) ((z0 d a).bind fun r0=>(z1 r0 a).bind fun r1=>cond (((b.length+1)*16)≤140737488355328) (k (.c0 d (w64 (a+1)) (b++[r1]))) none) (some b)
def Lr:Nat→Rz→Option (List ByteArray)
 | 0,_=>none
 | m+1,s=>IAB Nz Qz (Lr m) s
def JAB:GAR:=KAJ Nz Qz (Lr gas)
theorem FAb:Tells ctx PP 116 cv8 cv35 (fun a=>JAB a):=fz (cc2 WAa (cc2 DAb cn)) Tryz.func116 [] EAb (fun z=>IAB z.1 z.2.1) (fun z k a=>KAJ z.1 z.2.1 k a) Lr gas (fun s s' h=>by cases s;cases s';cases h;rfl) (fun _ _ s=>by cases s <;> kernel_rfl) fun _ _ _=>by kernel_rfl
abbrev LAJ:=Int→Int→ByteArray→ByteArray→Option ByteArray
def MAJ (z0:Jf) (z1:Ej) (d:Int) (e:Int) (a:ByteArray) (b:ByteArray):Option ByteArray:=(z0 d).bind fun r0=>(z0 e).bind fun r1=>cond ((r0.size+r1.size)≤9223372036854775807) (cond (((r0++r1).size+a.size)≤9223372036854775807) (cond ((((r0++r1)++a).size+b.size)≤9223372036854775807) (cond (((((r0++r1)++a)++b).size+(⟨#[110]⟩:ByteArray).size)≤9223372036854775807) ((z1 ((((r0++r1)++a)++b)++(⟨#[110]⟩:ByteArray))).bind fun r2=>some r2) none) none) none) none
def Gj:LAJ:=MAJ Qc Zd
theorem GAb:Tells ctx PP 200 cv38 cv8 (fun a=>Gj a.1 a.2.1 a.2.2.1 a.2.2.2):=fz0 (cc1 Ep (cc1 BAB cn)) Tryz.func200 [] (fun z a=>MAJ z.1 z.2.1 a.1 a.2.1 a.2.2.1 a.2.2.2) fun _ _=>by kernel_rfl
abbrev NAJ:=Int→(List ByteArray)→Option (List ByteArray)
inductive Sz where
 | c0 (a:Int) (b:(List ByteArray)) (d:Int) (e:(List ByteArray))
def HAb:Sz→LI
 | .c0 a b d e=>(tdo Tryz.f158 464,[vi 0 a,vr 1 9 b,vo 5 368,vi 6 d],[(368,.sl 9 e)])
def KAB (z0:LAJ) (k:Sz→Option (List ByteArray)) (a:Int) (b:(List ByteArray)):Option (List ByteArray):=k (.c0 a b 0 [])
def Cm (z0:LAJ) (k:Sz→Option (List ByteArray)):Sz→Option (List ByteArray)
 | .c0 e b a d=>cond ((w64 (a+1))<(b.length:Int)) (cond (0≤a&&a<(b.length:Int)) (cond (0≤(w64 (a+1))&&(w64 (a+1))<(b.length:Int)) ((z0 e (w64 (a.tdiv 2)) (b.getD a.toNat (⟨#[]⟩:ByteArray)) (b.getD (w64 (a+1)).toNat (⟨#[]⟩:ByteArray))).bind fun r0=>cond (((d.length+1)*16)≤140737488355328) (k (.c0 e b (w64 (a+2)) (d++[r0]))) none) none) none) (some d)
def Ij:Nat→Sz→Option (List ByteArray)
 | 0,_=>none
 | m+1,s=>Cm Gj (Ij m) s
def Em:NAJ:=KAB Gj (Ij gas)
theorem IAb:Tells ctx PP 158 cv39 cv35 (fun a=>Em a.1 a.2):=fz (cc4 GAb cn) Tryz.func158 [] HAb (fun z=>Cm z.1) (fun z k a=>KAB z.1 k a.1 a.2) Ij gas (fun s s' h=>by cases s;cases s';cases h;rfl) (fun _ _ s=>by cases s <;> kernel_rfl) fun _ _ _=>by kernel_rfl
abbrev HAR:=(List ByteArray)→Option ByteArray
inductive Tz where
 | c0 (a:(List ByteArray)) (b:Int)
 | c1 (b:Int) (a:(List ByteArray))
def JAb:Tz→LI
 | .c0 a b=>(tdo Tryz.f115 464,[vr 0 9 a,vi 3 b],[])
 | .c1 b a=>(tdo Tryz.f115 464,[vo 0 48,vi 3 b],[(48,.sl 9 a)])
def OAJ (z0:NAJ) (k:Tz→Option ByteArray) (a:(List ByteArray)):Option ByteArray:=cond ((a.length:Int) != 4) (some ⟨#[]⟩) (k (.c0 a 1))
def Uz (z0:NAJ) (k:Tz→Option ByteArray):Tz→Option ByteArray
 | .c0 a b=>cond ((a.length:Int) > 1) ((z0 b a).bind fun r0=>k (.c1 (w64 (b+1)) r0)) (cond (0≤(0:Int)&&0<(a.length:Int)) (some (a.getD (0:Int).toNat (⟨#[]⟩:ByteArray))) none)
 | .c1 b a=>cond ((a.length:Int) > 1) ((z0 b a).bind fun r0=>k (.c1 (w64 (b+1)) r0)) (cond (0≤(0:Int)&&0<(a.length:Int)) (some (a.getD (0:Int).toNat (⟨#[]⟩:ByteArray))) none)
def Nr:Nat→Tz→Option ByteArray
 | 0,_=>none
 | m+1,s=>Uz Em (Nr m) s
def LAB:HAR:=OAJ Em (Nr gas)
theorem KAb:Tells ctx PP 115 cv40 cv8 (fun a=>LAB a):=fz (cc2 IAb cn) Tryz.func115 [] JAb (fun z=>Uz z.1) (fun z k a=>OAJ z.1 k a) Nr gas (fun s s' h=>by cases s <;> cases s' <;> first | (cases h;done) | (cases h;rfl) | exact (rg_ne h (by kernel_rfl)).elim) (fun _ _ s=>by cases s <;> kernel_rfl) fun _ _ _=>by kernel_rfl
abbrev IAR:=ByteArray→Option ByteArray
def PAJ (z0:GAR) (z1:HAR) (a:ByteArray):Option ByteArray:=(z0 a).bind fun r0=>(z1 r0).bind fun r1=>some r1
def MAB:IAR:=PAJ JAB LAB
theorem LAb:Tells ctx PP 66 cv8 cv8 (fun a=>MAB a):=fz0 (cc1 FAb (cc1 KAb cn)) Tryz.func66 [] (fun z a=>PAJ z.1 z.2.1 a) fun _ _=>by kernel_rfl
abbrev JAR:=ByteArray→Option ByteArray
def QAJ (z0:IAR) (a:ByteArray):Option ByteArray:=cond ((a.size+(⟨#[116]⟩:ByteArray).size)≤9223372036854775807) ((z0 (a++(⟨#[116]⟩:ByteArray))).bind fun r0=>some r0) none
def NAB:JAR:=QAJ MAB
theorem MAb:Tells ctx PP 26 cv8 cv8 (fun a=>NAB a):=fz0 (cc1 LAb cn) Tryz.func26 [] (fun z a=>QAJ z.1 a) fun _ _=>by kernel_rfl
abbrev DAO:=SThing→Option ByteArray
def RAJ (z0:Q7) (z1:DAR) (z2:JAR) (a:SThing):Option ByteArray:=(z0 a).bind fun r0=>cond (!r0) (some ⟨#[]⟩) (cond (a.fKind == 1) ((z1 a.fValue).bind fun r1=>some r1.1.fPublic) (cond (a.fKind == 2) ((z2 a.fValue).bind fun r2=>some r2) (some ⟨#[]⟩)))
def X7:DAO:=RAJ Jo AAB NAB
theorem UAW:Tells ctx PP 9 cv2 cv8 (fun a=>X7 a):=fz0 (cc1 IAE (cc1 UAa (cc1 MAb cn))) Tryz.func9 [] (fun z a=>RAJ z.1 z.2.1 z.2.2.1 a) fun _ _=>by kernel_rfl
abbrev OAB:=ByteArray→Option (List Int)
inductive Vz where
 | c0 (a:ByteArray) (b:Int) (d:(List Int))
 | c1 (a:ByteArray) (b e f:Int) (d:(List Int))
def NAb:Vz→LI
 | .c0 a b d=>(tdo Tryz.f220 464,[vs 0 a,vo 3 240,vi 4 b],[(240,.sl 253 d)])
 | .c1 a b e f d=>(tdo Tryz.f220 119376,[vs 0 a,vo 3 240,vi 4 b,(5,[.one (.int .u64 e)]),vi 6 f],[(240,.sl 253 d)])
def SAJ (k:Vz→Option (List Int)) (a:ByteArray):Option (List Int):=k (.c0 a 0 [])
def Qr (k:Vz→Option (List Int)):Vz→Option (List Int)
 | .c0 b a d=>cond ((w64 (a+8))≤(b.size:Int)) (k (.c1 b a 0 7 d)) (some d)
 | .c1 b a f e d=>cond (e≥0) (cond (0≤(w64 (a+e))&&(w64 (a+e))<(b.size:Int)) (k (.c1 b a (wu64 ((wu64 (f*256))+(wu64 (bt b (w64 (a+e)))))) (w64 (e - 1)) d)) none) (cond (((d.length+1)*8)≤140737488355328) (k (.c0 b (w64 (a+8)) (d++[f]))) none)
def Ug:Nat→Vz→Option (List Int)
 | 0,_=>none
 | m+1,s=>Qr (Ug m) s
def Sr:OAB:=SAJ (Ug gas)
theorem KAR:Tells ctx PP 220 cv8 cv16 (fun a=>Sr a):=fz cn Tryz.func220 [] NAb (fun _=>Qr) (fun _ k a=>SAJ k a) Ug gas (fun s s' h=>by cases s <;> cases s' <;> first | (cases h;done) | (cases h;rfl) | exact (rg_ne h (by kernel_rfl)).elim) (fun _ _ s=>by cases s <;> kernel_rfl) fun _ _ _=>by kernel_rfl
abbrev TAJ:=Option (List Int)
inductive Xz where
 | c0 (a b d:Int) (e:(List Int))
def OAb:Xz→LI
 | .c0 a b d e=>(tdo Tryz.f236 2000,[vo 1 112,vi 2 a,vi 3 b,vi 4 d],[(112,.sl 3 e)])
def UAJ (k:Xz→Option (List Int))  : Option (List Int):=k (.c0 1 0 0 (List.replicate (25:Int).toNat (0:Int)))
def LAR (k:Xz→Option (List Int)):Xz→Option (List Int)
 | .c0 b a d e=>cond (d<24) (cond (0≤(w64 (b+(w64 (5*a))))&&(w64 (b+(w64 (5*a))))<(e.length:Int)) (k (.c0 a ((w64 ((w64 (2*b))+(w64 (3*a)))).tmod 5) (w64 (d+1)) (e.set (w64 (b+(w64 (5*a)))).toNat ((w64 ((w64 ((w64 (d+1))*(w64 (d+2)))).tdiv 2)).tmod 64)))) none) (some e)
def VAJ:Nat→Xz→Option (List Int)
 | 0,_=>none
 | m+1,s=>LAR (VAJ m) s
def Yz:TAJ:=UAJ (VAJ gas)
theorem PAb:Tells ctx PP 236 cv5 cv17 (fun _=>Yz):=fz cn Tryz.func236 [] OAb (fun _=>LAR) (fun _ k _=>UAJ k) VAJ gas (fun s s' h=>by cases s;cases s';cases h;rfl) (fun _ _ s=>by cases s <;> kernel_rfl) fun _ _ _=>by kernel_rfl
abbrev WAJ:=Option (List Int)
inductive Zz where
 | c0 (a b:Int) (d:(List Int))
 | c1 (a b:Int) (e f g:Int) (d:(List Int))
def QAb:Zz→LI
 | .c0 a b d=>(tdo Tryz.f237 976,[vo 1 112,vi 2 a,vi 3 b],[(112,.sl 253 d)])
 | .c1 a b e f g d=>(tdo Tryz.f237 500944,[vo 1 112,vi 2 a,vi 3 b,(4,[.one (.int .u64 e)]),(5,[.one (.int .u64 f)]),vi 6 g],[(112,.sl 253 d)])
def XAJ (k:Zz→Option (List Int))  : Option (List Int):=k (.c0 1 0 [])
def MAR (k:Zz→Option (List Int)):Zz→Option (List Int)
 | .c0 a e d=>cond (e<24) (k (.c1 a e 0 1 0 d)) (some d)
 | .c1 a e f b g d=>cond (g<7) (cond ((a.tmod 2) == 1) (cond ((w64 (a*2))≥256) (k (.c1 (w64 (((BitVec.toNat ((BitVec.ofInt (IntKind.bits .i64) (w64 ((w64 (a*2)) - 256))) ^^^ (BitVec.ofInt (IntKind.bits .i64) 113))):Nat):Int)) e (wu64 (f+b)) (wu64 ((wu64 (b*b))*2)) (w64 (g+1)) d)) (k (.c1 (w64 (a*2)) e (wu64 (f+b)) (wu64 ((wu64 (b*b))*2)) (w64 (g+1)) d))) (cond ((w64 (a*2))≥256) (k (.c1 (w64 (((BitVec.toNat ((BitVec.ofInt (IntKind.bits .i64) (w64 ((w64 (a*2)) - 256))) ^^^ (BitVec.ofInt (IntKind.bits .i64) 113))):Nat):Int)) e f (wu64 ((wu64 (b*b))*2)) (w64 (g+1)) d)) (k (.c1 (w64 (a*2)) e f (wu64 ((wu64 (b*b))*2)) (w64 (g+1)) d)))) (cond (((d.length+1)*8)≤140737488355328) (k (.c0 a (w64 (e+1)) (d++[f]))) none)
def YAJ:Nat→Zz→Option (List Int)
 | 0,_=>none
 | m+1,s=>MAR (YAJ m) s
def O0:WAJ:=XAJ (YAJ gas)
theorem RAb:Tells ctx PP 237 cv5 cv16 (fun _=>O0):=fz cn Tryz.func237 [] QAb (fun _=>MAR) (fun _ k _=>XAJ k) YAJ gas (fun s s' h=>by cases s <;> cases s' <;> first | (cases h;done) | (cases h;rfl) | exact (rg_ne h (by kernel_rfl)).elim) (fun _ _ s=>by cases s <;> kernel_rfl) fun _ _ _=>by kernel_rfl
abbrev ZAJ:=Int→Int→Option Int
inductive U0 where
 | c0 (a b:Int) (d e:Int)
def SAb:U0→LI
 | .c0 a b d e=>(tdo Tryz.f259 464,[(0,[.one (.int .u64 a)]),vi 1 b,(5,[.one (.int .u64 d)]),vi 6 e],[])
def AAK (k:U0→Option Int) (a:Int) (b:Int):Option Int:=k (.c0 a b 1 0)
def PAB (k:U0→Option Int):U0→Option Int
 | .c0 b d a e=>cond (e<d) (k (.c0 b d (wu64 (a*2)) (w64 (e+1)))) (cond (d == 0) (some b) (cond (!(a == 0)) (cond (!((wu64 ((wu64 ((9223372036854775808:Int).tdiv a))*2)) == 0)) (some (wu64 ((wu64 (b*a))+(wu64 (b.tdiv (wu64 ((wu64 ((9223372036854775808:Int).tdiv a))*2))))))) none) none))
def Ur:Nat→U0→Option Int
 | 0,_=>none
 | m+1,s=>PAB (Ur m) s
def Vr:ZAJ:=AAK (Ur gas)
theorem TAb:Tells ctx PP 259 cv18 cv19 (fun a=>Vr a.1 a.2):=fz cn Tryz.func259 [] SAb (fun _=>PAB) (fun _ k a=>AAK k a.1 a.2) Ur gas (fun s s' h=>by cases s;cases s';cases h;rfl) (fun _ _ s=>by cases s <;> kernel_rfl) fun _ _ _=>by kernel_rfl
abbrev BAK:=(List Int)→(List Int)→Int→Option (List Int)
inductive X0 where
 | c0 (d e:(List Int)) (a j:Int) (f:(List Int))
 | c1 (d e:(List Int)) (a g:Int) (f b:(List Int))
 | c2 (d e:(List Int)) (a g:Int) (n o:Int) (f b:(List Int))
 | c3 (a h:Int) (b i:(List Int))
 | c4 (a h p:Int) (b i:(List Int))
def UAb:X0→LI
 | .c0 d e a j f=>(tdo Tryz.f238 464,[vr 0 253 d,vr 1 3 e,(2,[.one (.int .u64 a)]),vo 7 496,vi 8 j],[(496,.sl 253 f)])
 | .c1 d e a g f b=>(tdo Tryz.f238 2000,[vr 0 253 d,vr 1 3 e,(2,[.one (.int .u64 a)]),vo 7 496,vo 9 624,vi 10 g],[(496,.sl 253 f),(624,.sl 253 b)])
 | .c2 d e a g n o f b=>(tdo Tryz.f238 256304,[vr 0 253 d,vr 1 3 e,(2,[.one (.int .u64 a)]),vo 7 496,vo 9 624,vi 10 g,(11,[.one (.int .u64 n)]),vi 12 o],[(496,.sl 253 f),(624,.sl 253 b)])
 | .c3 a h b i=>(tdo Tryz.f238 8144,[(2,[.one (.int .u64 a)]),vo 9 624,vo 13 880,vi 14 h],[(624,.sl 253 b),(880,.sl 253 i)])
 | .c4 a h p b i=>(tdo Tryz.f238 521360,[(2,[.one (.int .u64 a)]),vo 9 624,vo 13 880,vi 14 h,vi 15 p],[(624,.sl 253 b),(880,.sl 253 i)])
def CAK (z0:ZAJ) (k:X0→Option (List Int)) (a:(List Int)) (b:(List Int)) (d:Int):Option (List Int):=k (.c0 a b d 0 [0,0,0,0,0])
def Ue (z0:ZAJ) (k:X0→Option (List Int)):X0→Option (List Int)
 | .c0 d n g a j=>cond (a<5) (cond (0≤a&&a<(d.length:Int)) (cond (0≤(w64 (a+5))&&(w64 (a+5))<(d.length:Int)) (cond (0≤(w64 (a+10))&&(w64 (a+10))<(d.length:Int)) (cond (0≤(w64 (a+15))&&(w64 (a+15))<(d.length:Int)) (cond (0≤(w64 (a+20))&&(w64 (a+20))<(d.length:Int)) (cond (0≤a&&a<(j.length:Int)) (k (.c0 d n g (w64 (a+1)) (j.set a.toNat (wu64 (((BitVec.toNat ((BitVec.ofInt (IntKind.bits .u64) (wu64 (((BitVec.toNat ((BitVec.ofInt (IntKind.bits .u64) (wu64 (((BitVec.toNat ((BitVec.ofInt (IntKind.bits .u64) (wu64 (((BitVec.toNat ((BitVec.ofInt (IntKind.bits .u64) (d.getD a.toNat 0)) ^^^ (BitVec.ofInt (IntKind.bits .u64) (d.getD (w64 (a+5)).toNat 0)))):Nat):Int))) ^^^ (BitVec.ofInt (IntKind.bits .u64) (d.getD (w64 (a+10)).toNat 0)))):Nat):Int))) ^^^ (BitVec.ofInt (IntKind.bits .u64) (d.getD (w64 (a+15)).toNat 0)))):Nat):Int))) ^^^ (BitVec.ofInt (IntKind.bits .u64) (d.getD (w64 (a+20)).toNat 0)))):Nat):Int))))) none) none) none) none) none) none) (k (.c1 d n g 0 j (List.replicate (25:Int).toNat (0:Int))))
 | .c1 d n g b j e=>cond (b<5) (cond (0≤((w64 (b+4)).tmod 5)&&((w64 (b+4)).tmod 5)<(j.length:Int)) (cond (0≤((w64 (b+1)).tmod 5)&&((w64 (b+1)).tmod 5)<(j.length:Int)) ((z0 (j.getD ((w64 (b+1)).tmod 5).toNat 0) 1).bind fun r0=>k (.c2 d n g b (wu64 (((BitVec.toNat ((BitVec.ofInt (IntKind.bits .u64) (j.getD ((w64 (b+4)).tmod 5).toNat 0)) ^^^ (BitVec.ofInt (IntKind.bits .u64) r0))):Nat):Int)) 0 j e)) none) none) (k (.c3 g 0 e (List.replicate (25:Int).toNat (0:Int))))
 | .c2 d n g b p h j e=>cond (h<5) (cond (0≤(w64 (b+(w64 (5*h))))&&(w64 (b+(w64 (5*h))))<(d.length:Int)) (cond (0≤(w64 (b+(w64 (5*h))))&&(w64 (b+(w64 (5*h))))<(n.length:Int)) ((z0 (wu64 (((BitVec.toNat ((BitVec.ofInt (IntKind.bits .u64) (d.getD (w64 (b+(w64 (5*h)))).toNat 0)) ^^^ (BitVec.ofInt (IntKind.bits .u64) p))):Nat):Int)) (n.getD (w64 (b+(w64 (5*h)))).toNat 0)).bind fun r0=>cond (0≤(w64 (h+(w64 (5*((w64 ((w64 (2*b))+(w64 (3*h)))).tmod 5)))))&&(w64 (h+(w64 (5*((w64 ((w64 (2*b))+(w64 (3*h)))).tmod 5)))))<(e.length:Int)) (k (.c2 d n g b p (w64 (h+1)) j (e.set (w64 (h+(w64 (5*((w64 ((w64 (2*b))+(w64 (3*h)))).tmod 5))))).toNat r0))) none) none) none) (k (.c1 d n g (w64 (b+1)) j e))
 | .c3 g f e o=>cond (f<5) (k (.c4 g f 0 e o)) (cond (0≤(0:Int)&&0<(o.length:Int)) (cond (0≤(0:Int)&&0<(o.length:Int)) (some (o.set (0:Int).toNat (wu64 (((BitVec.toNat ((BitVec.ofInt (IntKind.bits .u64) (o.getD (0:Int).toNat 0)) ^^^ (BitVec.ofInt (IntKind.bits .u64) g))):Nat):Int)))) none) none)
 | .c4 g f i e o=>cond (i<5) (cond (0≤(w64 (f+(w64 (5*i))))&&(w64 (f+(w64 (5*i))))<(e.length:Int)) (cond (0≤(w64 (((w64 (f+1)).tmod 5)+(w64 (5*i))))&&(w64 (((w64 (f+1)).tmod 5)+(w64 (5*i))))<(e.length:Int)) (cond (0≤(w64 (((w64 (f+2)).tmod 5)+(w64 (5*i))))&&(w64 (((w64 (f+2)).tmod 5)+(w64 (5*i))))<(e.length:Int)) (cond (0≤(w64 (f+(w64 (5*i))))&&(w64 (f+(w64 (5*i))))<(o.length:Int)) (k (.c4 g f (w64 (i+1)) e (o.set (w64 (f+(w64 (5*i)))).toNat (wu64 (((BitVec.toNat ((BitVec.ofInt (IntKind.bits .u64) (e.getD (w64 (f+(w64 (5*i)))).toNat 0)) ^^^ (BitVec.ofInt (IntKind.bits .u64) (wu64 (((BitVec.toNat ((BitVec.ofInt (IntKind.bits .u64) (wu64 (18446744073709551615 - (e.getD (w64 (((w64 (f+1)).tmod 5)+(w64 (5*i)))).toNat 0)))) &&& (BitVec.ofInt (IntKind.bits .u64) (e.getD (w64 (((w64 (f+2)).tmod 5)+(w64 (5*i)))).toNat 0)))):Nat):Int))))):Nat):Int))))) none) none) none) none) (k (.c3 g (w64 (f+1)) e o))
def Ac:Nat→X0→Option (List Int)
 | 0,_=>none
 | m+1,s=>Ue Vr (Ac m) s
def Y0:BAK:=CAK Vr (Ac gas)
theorem VAb:Tells ctx PP 238 cv20 cv16 (fun a=>Y0 a.1 a.2.1 a.2.2):=fz (cc2 TAb cn) Tryz.func238 [] UAb (fun z=>Ue z.1) (fun z k a=>CAK z.1 k a.1 a.2.1 a.2.2) Ac gas (fun s s' h=>by cases s <;> cases s' <;> first | (cases h;done) | (cases h;rfl) | exact (rg_ne h (by kernel_rfl)).elim) (fun _ _ s=>by cases s <;> kernel_rfl) fun _ _ _=>by kernel_rfl
abbrev QAB:=(List Int)→Option (List Int)
inductive O1 where
 | c0 (a:Int) (b d e:(List Int))
def WAb:O1→LI
 | .c0 a b d e=>(tdo Tryz.f221 976,[vo 0 48,vo 3 240,vo 4 304,vi 5 a],[(48,.sl 253 b),(240,.sl 3 d),(304,.sl 253 e)])
def DAK (z0:TAJ) (z1:WAJ) (z2:BAK) (k:O1→Option (List Int)) (a:(List Int)):Option (List Int):=z0.bind fun r0=>z1.bind fun r1=>k (.c0 0 a r0 r1)
def RAB (z0:TAJ) (z1:WAJ) (z2:BAK) (k:O1→Option (List Int)):O1→Option (List Int)
 | .c0 a d e b=>cond (a<24) (cond (0≤a&&a<(b.length:Int)) ((z2 d e (b.getD a.toNat 0)).bind fun r0=>k (.c0 (w64 (a+1)) r0 e b)) none) (some d)
def Xr:Nat→O1→Option (List Int)
 | 0,_=>none
 | m+1,s=>RAB Yz O0 Y0 (Xr m) s
def Yr:QAB:=DAK Yz O0 Y0 (Xr gas)
theorem NAR:Tells ctx PP 221 cv16 cv16 (fun a=>Yr a):=fz (cc0 PAb (cc0 RAb (cc3 VAb cn))) Tryz.func221 [] WAb (fun z=>RAB z.1 z.2.1 z.2.2.1) (fun z k a=>DAK z.1 z.2.1 z.2.2.1 k a) Xr gas (fun s s' h=>by cases s;cases s';cases h;rfl) (fun _ _ s=>by cases s <;> kernel_rfl) fun _ _ _=>by kernel_rfl
abbrev SAB:=(List Int)→Option ByteArray
inductive U1 where
 | c0 (a:(List Int)) (b:Int) (d:(List Int))
 | c1 (a:(List Int)) (b e f:Int) (d:(List Int))
def XAb:U1→LI
 | .c0 a b d=>(tdo Tryz.f222 464,[vr 0 253 a,vo 3 240,vi 4 b],[(240,.sl 5 d)])
 | .c1 a b e f d=>(tdo Tryz.f222 59696,[vr 0 253 a,vo 3 240,vi 4 b,(5,[.one (.int .u64 e)]),vi 6 f],[(240,.sl 5 d)])
def EAK (k:U1→Option ByteArray) (a:(List Int)):Option ByteArray:=k (.c0 a 0 [])
def Zr (k:U1→Option ByteArray):U1→Option ByteArray
 | .c0 b a d=>cond (a<(b.length:Int)) (cond (0≤a&&a<(b.length:Int)) (k (.c1 b a (b.getD a.toNat 0) 0 d)) none) (some (ofBytes d))
 | .c1 b a e f d=>cond (f<8) (cond (((d.length+1)*1)≤140737488355328) (k (.c1 b a (wu64 (e.tdiv 256)) (w64 (f+1)) (d++[w8 (e.tmod 256)]))) none) (k (.c0 b (w64 (a+1)) d))
def Zh:Nat→U1→Option ByteArray
 | 0,_=>none
 | m+1,s=>Zr (Zh m) s
def Es:SAB:=EAK (Zh gas)
theorem OAR:Tells ctx PP 222 cv21 cv8 (fun a=>Es a):=fz cn Tryz.func222 [] XAb (fun _=>Zr) (fun _ k a=>EAK k a) Zh gas (fun s s' h=>by cases s <;> cases s' <;> first | (cases h;done) | (cases h;rfl) | exact (rg_ne h (by kernel_rfl)).elim) (fun _ _ s=>by cases s <;> kernel_rfl) fun _ _ _=>by kernel_rfl
abbrev PAR:=ByteArray→Int→Int→Option ByteArray
inductive Y1 where
 | c0 (a:Int) (b d:(List Int))
 | c1 (a e:Int) (b d:(List Int))
 | c2 (a e f:Int) (b d g:(List Int))
def YAb:Y1→LI
 | .c0 a b d=>(tdo Tryz.f193 480,[vi 1 a,vo 7 496,vo 8 560],[(496,.sl 253 b),(560,.sl 5 d)])
 | .c1 a e b d=>(tdo Tryz.f193 4048,[vi 1 a,vo 7 496,vo 8 560,vi 9 e],[(496,.sl 253 b),(560,.sl 5 d)])
 | .c2 a e f b d g=>(tdo Tryz.f193 1036880,[vi 1 a,vo 7 496,vo 8 560,vi 9 e,vo 10 688,vi 11 f],[(496,.sl 253 b),(560,.sl 5 d),(688,.sl 253 g)])
def FAK (z0:OAB) (z1:QAB) (z2:SAB) (k:Y1→Option ByteArray) (a:ByteArray) (b:Int) (d:Int):Option ByteArray:=cond (a.size≤9223372036854775807) (cond ((((bytesOf a).length+1)*1)≤140737488355328) (k (.c0 b (List.replicate (25:Int).toNat (0:Int)) ((bytesOf a)++[d]))) none) none
def Jj (z0:OAB) (z1:QAB) (z2:SAB) (k:Y1→Option ByteArray):Y1→Option ByteArray
 | .c0 b e a=>cond (!(b == 0)) (cond (((a.length:Int).tmod b) != 0) (cond (((a.length+1)*1)≤140737488355328) (k (.c0 b e (a++[(0:Int)]))) none) (cond (0≤(w64 ((a.length:Int) - 1))&&(w64 ((a.length:Int) - 1))<(a.length:Int)) (cond (0≤(w64 ((a.length:Int) - 1))&&(w64 ((a.length:Int) - 1))<(a.length:Int)) (k (.c1 b 0 e (a.set (w64 ((a.length:Int) - 1)).toNat (w8 (((BitVec.toNat ((BitVec.ofInt (IntKind.bits .u8) (a.getD (w64 ((a.length:Int) - 1)).toNat 0)) ^^^ (BitVec.ofInt (IntKind.bits .u8) 128))):Nat):Int))))) none) none)) none
 | .c1 b d e a=>cond (d<(a.length:Int)) (cond (((decide (0≤d)) && (decide (d≤(w64 (d+b))))) && (decide ((w64 (d+b))≤(a.length:Int)))) ((z0 (ofBytes ((a.drop d.toNat).take ((w64 (d+b)).toNat - d.toNat)))).bind fun r0=>k (.c2 b d 0 e a r0)) none) ((z2 e).bind fun r1=>some r1)
 | .c2 b d f e a g=>cond (f<(g.length:Int)) (cond (0≤f&&f<(e.length:Int)) (cond (0≤f&&f<(g.length:Int)) (cond (0≤f&&f<(e.length:Int)) (k (.c2 b d (w64 (f+1)) (e.set f.toNat (wu64 (((BitVec.toNat ((BitVec.ofInt (IntKind.bits .u64) (e.getD f.toNat 0)) ^^^ (BitVec.ofInt (IntKind.bits .u64) (g.getD f.toNat 0)))):Nat):Int))) a g)) none) none) none) ((z1 e).bind fun r0=>k (.c1 b (w64 (d+b)) r0 a))
def Bd:Nat→Y1→Option ByteArray
 | 0,_=>none
 | m+1,s=>Jj Sr Yr Es (Bd m) s
def U2:PAR:=FAK Sr Yr Es (Bd gas)
theorem ZAb:Tells ctx PP 193 cv22 cv8 (fun a=>U2 a.1 a.2.1 a.2.2):=fz (cc1 KAR (cc1 NAR (cc1 OAR cn))) Tryz.func193 [] YAb (fun z=>Jj z.1 z.2.1 z.2.2.1) (fun z k a=>FAK z.1 z.2.1 z.2.2.1 k a.1 a.2.1 a.2.2) Bd gas (fun s s' h=>by cases s <;> cases s' <;> first | (cases h;done) | (cases h;rfl) | exact (rg_ne h (by kernel_rfl)).elim) (fun _ _ s=>by cases s <;> kernel_rfl) fun _ _ _=>by kernel_rfl
abbrev TAB:=ByteArray→Option SStream
def GAK (z0:PAR) (a:ByteArray):Option SStream:=(z0 a 168 31).bind fun r0=>some ⟨r0,0⟩
def Gs:TAB:=GAK U2
theorem QAR:Tells ctx PP 145 cv8 cv23 (fun a=>Gs a):=fz0 (cc3 ZAb cn) Tryz.func145 [] (fun z a=>GAK z.1 a) fun _ _=>by kernel_rfl
abbrev HAK:=ByteArray→Option ByteArray
def IAK (z0:OAB) (z1:QAB) (z2:SAB) (a:ByteArray):Option ByteArray:=cond ((a.size:Int) != 200) (some a) ((z0 a).bind fun r0=>(z1 r0).bind fun r1=>(z2 r1).bind fun r2=>some r2)
def Y2:HAK:=IAK Sr Yr Es
theorem AAc:Tells ctx PP 194 cv8 cv8 (fun a=>Y2 a):=fz0 (cc1 KAR (cc1 NAR (cc1 OAR cn))) Tryz.func194 [] (fun z a=>IAK z.1 z.2.1 z.2.2.1 a) fun _ _=>by kernel_rfl
abbrev UAB:=SStream→Int→Option (SStream×ByteArray)
inductive J3 where
 | c0 (a:Int) (b d:SStream) (e:(List Int))
def BAc:J3→LI
 | .c0 d a b e=>(tdo Tryz.f146 480,[vi 1 d,vp 2 128,vp 4 256,vo 6 432],[(128,.var [.str a.fState,li a.fAt]),(256,.var [.str b.fState,li b.fAt]),(432,.sl 5 e)])
def JAK (z0:Td) (z1:HAK) (k:J3→Option (SStream×ByteArray)) (a:SStream) (b:Int):Option (SStream×ByteArray):=(z0 b 0 4000).bind fun r0=>cond (!r0) (some (a,⟨#[]⟩)) (cond ((a.fState.size:Int) != 200) (some (a,⟨#[]⟩)) ((z0 a.fAt 0 168).bind fun r1=>cond (!r1) (some (a,⟨#[]⟩)) (k (.c0 b a ⟨⟨#[]⟩,0⟩ []))))
def KAK (z0:Td) (z1:HAK) (k:J3→Option (SStream×ByteArray)):J3→Option (SStream×ByteArray)
 | .c0 d a e b=>cond ((b.length:Int)<d) (cond (a.fAt == 168) ((z1 a.fState).bind fun r0=>cond ((w64 ((168:Int) - (0:Int))) > (w64 (d - (b.length:Int)))) (cond (((decide (0≤(0:Int))) && (decide (0≤(w64 (0+(w64 (d - (b.length:Int)))))))) && (decide ((w64 (0+(w64 (d - (b.length:Int)))))≤(r0.size:Int)))) (cond ((r0.extract (0:Int).toNat (w64 (0+(w64 (d - (b.length:Int))))).toNat).size≤9223372036854775807) (cond (((b.length+(bytesOf (r0.extract (0:Int).toNat (w64 (0+(w64 (d - (b.length:Int))))).toNat)).length)*1)≤140737488355328) (k (.c0 d ⟨r0,w64 (0+(w64 (d - (b.length:Int))))⟩ e (b++(bytesOf (r0.extract (0:Int).toNat (w64 (0+(w64 (d - (b.length:Int))))).toNat))))) none) none) none) (cond (((decide (0≤(0:Int))) && (decide (0≤(w64 (0+(w64 ((168:Int) - (0:Int)))))))) && (decide ((w64 (0+(w64 ((168:Int) - (0:Int)))))≤(r0.size:Int)))) (cond ((r0.extract (0:Int).toNat (w64 (0+(w64 ((168:Int) - (0:Int))))).toNat).size≤9223372036854775807) (cond (((b.length+(bytesOf (r0.extract (0:Int).toNat (w64 (0+(w64 ((168:Int) - (0:Int))))).toNat)).length)*1)≤140737488355328) (k (.c0 d ⟨r0,w64 (0+(w64 ((168:Int) - (0:Int))))⟩ e (b++(bytesOf (r0.extract (0:Int).toNat (w64 (0+(w64 ((168:Int) - (0:Int))))).toNat))))) none) none) none)) (cond ((w64 (168 - a.fAt)) > (w64 (d - (b.length:Int)))) (cond (((decide (0≤a.fAt)) && (decide (a.fAt≤(w64 (a.fAt+(w64 (d - (b.length:Int)))))))) && (decide ((w64 (a.fAt+(w64 (d - (b.length:Int)))))≤(a.fState.size:Int)))) (cond ((a.fState.extract a.fAt.toNat (w64 (a.fAt+(w64 (d - (b.length:Int))))).toNat).size≤9223372036854775807) (cond (((b.length+(bytesOf (a.fState.extract a.fAt.toNat (w64 (a.fAt+(w64 (d - (b.length:Int))))).toNat)).length)*1)≤140737488355328) (k (.c0 d ⟨a.fState,w64 (a.fAt+(w64 (d - (b.length:Int))))⟩ e (b++(bytesOf (a.fState.extract a.fAt.toNat (w64 (a.fAt+(w64 (d - (b.length:Int))))).toNat))))) none) none) none) (cond (((decide (0≤a.fAt)) && (decide (a.fAt≤(w64 (a.fAt+(w64 (168 - a.fAt))))))) && (decide ((w64 (a.fAt+(w64 (168 - a.fAt))))≤(a.fState.size:Int)))) (cond ((a.fState.extract a.fAt.toNat (w64 (a.fAt+(w64 (168 - a.fAt)))).toNat).size≤9223372036854775807) (cond (((b.length+(bytesOf (a.fState.extract a.fAt.toNat (w64 (a.fAt+(w64 (168 - a.fAt)))).toNat)).length)*1)≤140737488355328) (k (.c0 d ⟨a.fState,w64 (a.fAt+(w64 (168 - a.fAt)))⟩ e (b++(bytesOf (a.fState.extract a.fAt.toNat (w64 (a.fAt+(w64 (168 - a.fAt)))).toNat))))) none) none) none))) (some (a,ofBytes b))
def Js:Nat→J3→Option (SStream×ByteArray)
 | 0,_=>none
 | m+1,s=>KAK Xc Y2 (Js m) s
def Gm:UAB:=JAK Xc Y2 (Js gas)
theorem RAR:Tells ctx PP 146 cv24 cv25 (fun a=>Gm a.1 a.2):=fz (cc3 Wi (cc1 AAc cn)) Tryz.func146 [] BAc (fun z=>KAK z.1 z.2.1) (fun z k a=>JAK z.1 z.2.1 k a.1 a.2) Js gas (fun s s' h=>by cases s;cases s';(repeat cases ‹SStream›);cases h;rfl) (fun _ _ s=>by cases s <;> kernel_rfl) fun _ _ _=>by kernel_rfl
abbrev LAK:=ByteArray→Int→Int→Option (List Int)
inductive O3 where
 | c0 (b:ByteArray) (d:Int) (e:SStream) (a:(List Int))
 | c1 (a:(List Int))
def CAc:O3→LI
 | .c0 d e b a=>(tdo Tryz.f98 2000,[vo 7 496,vp 8 512,vs 9 d,vi 10 e],[(512,.var [.str b.fState,li b.fAt]),(496,.sl 3 a)])
 | .c1 a=>(tdo Tryz.f98 2016,[vo 7 496],[(496,.sl 3 a)])
def MAK (z0:Rf) (z1:TAB) (z2:UAB) (k:O3→Option (List Int)) (a:ByteArray) (b:Int) (d:Int):Option (List Int):=(z0 b).bind fun r0=>cond ((a.size+r0.size)≤9223372036854775807) ((z0 d).bind fun r1=>cond (((a++r0).size+r1.size)≤9223372036854775807) ((z1 ((a++r0)++r1)).bind fun r2=>k (.c0 ⟨#[]⟩ 0 r2 [])) none) none
def VAB (z0:Rf) (z1:TAB) (z2:UAB) (k:O3→Option (List Int)):O3→Option (List Int)
 | .c0 b a e d=>cond (a<4000) (cond ((d.length:Int)<256) (cond ((w64 ((a.tmod 56)*3)) == 0) ((z2 e 168).bind fun r0=>cond (0≤(w64 ((a.tmod 56)*3))&&(w64 ((a.tmod 56)*3))<(r0.2.size:Int)) (cond (0≤(w64 ((w64 ((a.tmod 56)*3))+1))&&(w64 ((w64 ((a.tmod 56)*3))+1))<(r0.2.size:Int)) (cond (0≤(w64 ((w64 ((a.tmod 56)*3))+1))&&(w64 ((w64 ((a.tmod 56)*3))+1))<(r0.2.size:Int)) (cond (0≤(w64 ((w64 ((a.tmod 56)*3))+2))&&(w64 ((w64 ((a.tmod 56)*3))+2))<(r0.2.size:Int)) (cond ((w64 ((w64 (bt r0.2 (w64 ((a.tmod 56)*3))))+(w64 (256*((w64 (bt r0.2 (w64 ((w64 ((a.tmod 56)*3))+1)))).tmod 16)))))<3329) (cond (((d.length+1)*8)≤140737488355328) (cond ((w64 ((w64 ((w64 (bt r0.2 (w64 ((w64 ((a.tmod 56)*3))+1)))).tdiv 16))+(w64 (16*(w64 (bt r0.2 (w64 ((w64 ((a.tmod 56)*3))+2))))))))<3329) (cond (((d++[w64 ((w64 (bt r0.2 (w64 ((a.tmod 56)*3))))+(w64 (256*((w64 (bt r0.2 (w64 ((w64 ((a.tmod 56)*3))+1)))).tmod 16))))]).length:Int)<256) (cond ((((d++[w64 ((w64 (bt r0.2 (w64 ((a.tmod 56)*3))))+(w64 (256*((w64 (bt r0.2 (w64 ((w64 ((a.tmod 56)*3))+1)))).tmod 16))))]).length+1)*8)≤140737488355328) (k (.c0 r0.2 (w64 (a+1)) r0.1 ((d++[w64 ((w64 (bt r0.2 (w64 ((a.tmod 56)*3))))+(w64 (256*((w64 (bt r0.2 (w64 ((w64 ((a.tmod 56)*3))+1)))).tmod 16))))])++[w64 ((w64 ((w64 (bt r0.2 (w64 ((w64 ((a.tmod 56)*3))+1)))).tdiv 16))+(w64 (16*(w64 (bt r0.2 (w64 ((w64 ((a.tmod 56)*3))+2)))))))]))) none) (k (.c0 r0.2 (w64 (a+1)) r0.1 (d++[w64 ((w64 (bt r0.2 (w64 ((a.tmod 56)*3))))+(w64 (256*((w64 (bt r0.2 (w64 ((w64 ((a.tmod 56)*3))+1)))).tmod 16))))])))) (k (.c0 r0.2 (w64 (a+1)) r0.1 (d++[w64 ((w64 (bt r0.2 (w64 ((a.tmod 56)*3))))+(w64 (256*((w64 (bt r0.2 (w64 ((w64 ((a.tmod 56)*3))+1)))).tmod 16))))])))) none) (cond ((w64 ((w64 ((w64 (bt r0.2 (w64 ((w64 ((a.tmod 56)*3))+1)))).tdiv 16))+(w64 (16*(w64 (bt r0.2 (w64 ((w64 ((a.tmod 56)*3))+2))))))))<3329) (cond ((d.length:Int)<256) (cond (((d.length+1)*8)≤140737488355328) (k (.c0 r0.2 (w64 (a+1)) r0.1 (d++[w64 ((w64 ((w64 (bt r0.2 (w64 ((w64 ((a.tmod 56)*3))+1)))).tdiv 16))+(w64 (16*(w64 (bt r0.2 (w64 ((w64 ((a.tmod 56)*3))+2)))))))]))) none) (k (.c0 r0.2 (w64 (a+1)) r0.1 d))) (k (.c0 r0.2 (w64 (a+1)) r0.1 d)))) none) none) none) none) (cond (0≤(w64 ((a.tmod 56)*3))&&(w64 ((a.tmod 56)*3))<(b.size:Int)) (cond (0≤(w64 ((w64 ((a.tmod 56)*3))+1))&&(w64 ((w64 ((a.tmod 56)*3))+1))<(b.size:Int)) (cond (0≤(w64 ((w64 ((a.tmod 56)*3))+1))&&(w64 ((w64 ((a.tmod 56)*3))+1))<(b.size:Int)) (cond (0≤(w64 ((w64 ((a.tmod 56)*3))+2))&&(w64 ((w64 ((a.tmod 56)*3))+2))<(b.size:Int)) (cond ((w64 ((w64 (bt b (w64 ((a.tmod 56)*3))))+(w64 (256*((w64 (bt b (w64 ((w64 ((a.tmod 56)*3))+1)))).tmod 16)))))<3329) (cond (((d.length+1)*8)≤140737488355328) (cond ((w64 ((w64 ((w64 (bt b (w64 ((w64 ((a.tmod 56)*3))+1)))).tdiv 16))+(w64 (16*(w64 (bt b (w64 ((w64 ((a.tmod 56)*3))+2))))))))<3329) (cond (((d++[w64 ((w64 (bt b (w64 ((a.tmod 56)*3))))+(w64 (256*((w64 (bt b (w64 ((w64 ((a.tmod 56)*3))+1)))).tmod 16))))]).length:Int)<256) (cond ((((d++[w64 ((w64 (bt b (w64 ((a.tmod 56)*3))))+(w64 (256*((w64 (bt b (w64 ((w64 ((a.tmod 56)*3))+1)))).tmod 16))))]).length+1)*8)≤140737488355328) (k (.c0 b (w64 (a+1)) e ((d++[w64 ((w64 (bt b (w64 ((a.tmod 56)*3))))+(w64 (256*((w64 (bt b (w64 ((w64 ((a.tmod 56)*3))+1)))).tmod 16))))])++[w64 ((w64 ((w64 (bt b (w64 ((w64 ((a.tmod 56)*3))+1)))).tdiv 16))+(w64 (16*(w64 (bt b (w64 ((w64 ((a.tmod 56)*3))+2)))))))]))) none) (k (.c0 b (w64 (a+1)) e (d++[w64 ((w64 (bt b (w64 ((a.tmod 56)*3))))+(w64 (256*((w64 (bt b (w64 ((w64 ((a.tmod 56)*3))+1)))).tmod 16))))])))) (k (.c0 b (w64 (a+1)) e (d++[w64 ((w64 (bt b (w64 ((a.tmod 56)*3))))+(w64 (256*((w64 (bt b (w64 ((w64 ((a.tmod 56)*3))+1)))).tmod 16))))])))) none) (cond ((w64 ((w64 ((w64 (bt b (w64 ((w64 ((a.tmod 56)*3))+1)))).tdiv 16))+(w64 (16*(w64 (bt b (w64 ((w64 ((a.tmod 56)*3))+2))))))))<3329) (cond ((d.length:Int)<256) (cond (((d.length+1)*8)≤140737488355328) (k (.c0 b (w64 (a+1)) e (d++[w64 ((w64 ((w64 (bt b (w64 ((w64 ((a.tmod 56)*3))+1)))).tdiv 16))+(w64 (16*(w64 (bt b (w64 ((w64 ((a.tmod 56)*3))+2)))))))]))) none) (k (.c0 b (w64 (a+1)) e d))) (k (.c0 b (w64 (a+1)) e d)))) none) none) none) none)) (k (.c1 d))) (k (.c1 d))
 | .c1 d=>cond ((d.length:Int)<256) (cond (((d.length+1)*8)≤140737488355328) (k (.c1 (d++[(0:Int)]))) none) (some d)
def Vg:Nat→O3→Option (List Int)
 | 0,_=>none
 | m+1,s=>VAB Tc Gs Gm (Vg m) s
def Ai:LAK:=MAK Tc Gs Gm (Vg gas)
theorem DAc:Tells ctx PP 98 cv26 cv17 (fun a=>Ai a.1 a.2.1 a.2.2):=fz (cc1 Np (cc1 QAR (cc2 RAR cn))) Tryz.func98 [] CAc (fun z=>VAB z.1 z.2.1 z.2.2.1) (fun z k a=>MAK z.1 z.2.1 z.2.2.1 k a.1 a.2.1 a.2.2) Vg gas (fun s s' h=>by cases s <;> cases s' <;> first | ((repeat cases ‹SStream›);cases h;done) | ((repeat cases ‹SStream›);cases h;rfl) | exact (rg_ne h (by kernel_rfl)).elim) (fun _ _ s=>by cases s <;> kernel_rfl) fun _ _ _=>by kernel_rfl
abbrev NAK:=ByteArray→Option (List (List Int))
inductive U3 where
 | c0 (a:ByteArray) (b:Int) (d:(List (List Int)))
 | c1 (a:ByteArray) (b e:Int) (d:(List (List Int)))
def EAc:U3→LI
 | .c0 a b d=>(tdo Tryz.f53 464,[vs 0 a,vo 3 240,vi 4 b],[(240,.sl 38 d)])
 | .c1 a b e d=>(tdo Tryz.f53 29840,[vs 0 a,vo 3 240,vi 4 b,vi 5 e],[(240,.sl 38 d)])
def OAK (z0:LAK) (k:U3→Option (List (List Int))) (a:ByteArray):Option (List (List Int)):=k (.c0 a 0 [])
def Uf (z0:LAK) (k:U3→Option (List (List Int))):U3→Option (List (List Int))
 | .c0 d a b=>cond (a<2) (k (.c1 d a 0 b)) (some b)
 | .c1 d a e b=>cond (e<2) ((z0 d e a).bind fun r0=>cond (((b.length+1)*24)≤140737488355328) (k (.c1 d a (w64 (e+1)) (b++[r0]))) none) (k (.c0 d (w64 (a+1)) b))
def Ve:Nat→U3→Option (List (List Int))
 | 0,_=>none
 | m+1,s=>Uf Ai (Ve m) s
def V3:NAK:=OAK Ai (Ve gas)
theorem FAc:Tells ctx PP 53 cv8 cv27 (fun a=>V3 a):=fz (cc3 DAc cn) Tryz.func53 [] EAc (fun z=>Uf z.1) (fun z k a=>OAK z.1 k a) Ve gas (fun s s' h=>by cases s <;> cases s' <;> first | (cases h;done) | (cases h;rfl) | exact (rg_ne h (by kernel_rfl)).elim) (fun _ _ s=>by cases s <;> kernel_rfl) fun _ _ _=>by kernel_rfl
abbrev PAK:=ByteArray→Int→Option (ByteArray×Bool)
def QAK (z0:Td) (z1:TAB) (z2:UAB) (b:ByteArray) (a:Int):Option (ByteArray×Bool):=(z0 a 0 4000).bind fun r0=>cond (!r0) (some (⟨#[]⟩,false)) ((z1 b).bind fun r1=>(z2 r1 a).bind fun r2=>some (r2.2,true))
def Ls:PAK:=QAK Xc Gs Gm
theorem GAc:Tells ctx PP 102 cv10 cv28 (fun a=>Ls a.1 a.2):=fz0 (cc3 Wi (cc1 QAR (cc2 RAR cn))) Tryz.func102 [] (fun z a=>QAK z.1 z.2.1 z.2.2.1 a.1 a.2) fun _ _=>by kernel_rfl
abbrev RAK:=ByteArray→Int→Option (List Int)
inductive X3 where
 | c0 (a:ByteArray) (b:Int) (d:(List Int))
def HAc:X3→LI
 | .c0 a b d=>(tdo Tryz.f55 976,[vo 5 368,vs 6 a,vi 8 b],[(368,.sl 3 d)])
def SAK (z0:Rf) (z1:PAK) (k:X3→Option (List Int)) (a:ByteArray) (b:Int):Option (List Int):=(z0 b).bind fun r0=>cond ((a.size+r0.size)≤9223372036854775807) ((z1 (a++r0) 128).bind fun r1=>k (.c0 r1.1 0 [])) none
def WAB (z0:Rf) (z1:PAK) (k:X3→Option (List Int)):X3→Option (List Int)
 | .c0 b a d=>cond (a<256) (cond (0≤(w64 (a.tdiv 2))&&(w64 (a.tdiv 2))<(b.size:Int)) (cond ((a.tmod 2) == 1) (cond (((d.length+1)*8)≤140737488355328) (k (.c0 b (w64 (a+1)) (d++[(w64 ((w64 ((w64 ((w64 (((w64 ((w64 (bt b (w64 (a.tdiv 2)))).tdiv 16)).tmod 2)+((w64 ((w64 ((w64 (bt b (w64 (a.tdiv 2)))).tdiv 16)).tdiv 2)).tmod 2))) - ((w64 ((w64 ((w64 (bt b (w64 (a.tdiv 2)))).tdiv 16)).tdiv 4)).tmod 2))) - ((w64 ((w64 ((w64 (bt b (w64 (a.tdiv 2)))).tdiv 16)).tdiv 8)).tmod 2)))+3329)).tmod 3329]))) none) (cond (((d.length+1)*8)≤140737488355328) (k (.c0 b (w64 (a+1)) (d++[(w64 ((w64 ((w64 ((w64 (((w64 (bt b (w64 (a.tdiv 2)))).tmod 2)+((w64 ((w64 (bt b (w64 (a.tdiv 2)))).tdiv 2)).tmod 2))) - ((w64 ((w64 (bt b (w64 (a.tdiv 2)))).tdiv 4)).tmod 2))) - ((w64 ((w64 (bt b (w64 (a.tdiv 2)))).tdiv 8)).tmod 2)))+3329)).tmod 3329]))) none)) none) (some d)
def Ns:Nat→X3→Option (List Int)
 | 0,_=>none
 | m+1,s=>WAB Tc Ls (Ns m) s
def Ci:RAK:=SAK Tc Ls (Ns gas)
theorem IAc:Tells ctx PP 55 cv10 cv17 (fun a=>Ci a.1 a.2):=fz (cc1 Np (cc2 GAc cn)) Tryz.func55 [] HAc (fun z=>WAB z.1 z.2.1) (fun z k a=>SAK z.1 z.2.1 k a.1 a.2) Ns gas (fun s s' h=>by cases s;cases s';cases h;rfl) (fun _ _ s=>by cases s <;> kernel_rfl) fun _ _ _=>by kernel_rfl
abbrev Lj:=(List Int)→Option Bool
inductive Y3 where
 | c0 (a:(List Int)) (b:Int)
def JAc:Y3→LI
 | .c0 a b=>(tdo Tryz.f99 464,[vr 0 3 a,vi 3 b],[])
def TAK (z0:Td) (k:Y3→Option Bool) (a:(List Int)):Option Bool:=cond ((a.length:Int) != 256) (some false) (k (.c0 a 0))
def XAB (z0:Td) (k:Y3→Option Bool):Y3→Option Bool
 | .c0 b a=>cond (a<(b.length:Int)) (cond (0≤a&&a<(b.length:Int)) ((z0 (b.getD a.toNat 0) 0 3328).bind fun r0=>cond (!r0) (some false) (k (.c0 b (w64 (a+1))))) none) (some true)
def Qs:Nat→Y3→Option Bool
 | 0,_=>none
 | m+1,s=>XAB Xc (Qs m) s
def Xg:Lj:=TAK Xc (Qs gas)
theorem YAB:Tells ctx PP 99 cv29 cv4 (fun a=>Xg a):=fz (cc3 Wi cn) Tryz.func99 [] JAc (fun z=>XAB z.1) (fun z k a=>TAK z.1 k a) Qs gas (fun s s' h=>by cases s;cases s';cases h;rfl) (fun _ _ s=>by cases s <;> kernel_rfl) fun _ _ _=>by kernel_rfl
abbrev I4:=Int→Option Int
inductive J4 where
 | c0 (a b d:Int)
def KAc:J4→LI
 | .c0 a b d=>(tdo Tryz.f101 2000,[vi 0 a,vi 3 b,vi 4 d],[])
def UAK (k:J4→Option Int) (a:Int):Option Int:=cond ((a.tmod 128)<0) (k (.c0 (w64 ((a.tmod 128)+128)) 0 0)) (k (.c0 (a.tmod 128) 0 0))
def ZAB (k:J4→Option Int):J4→Option Int
 | .c0 a b d=>cond (d<7) (k (.c0 (w64 (a.tdiv 2)) (w64 ((w64 (2*b))+(a.tmod 2))) (w64 (d+1)))) (some b)
def Us:Nat→J4→Option Int
 | 0,_=>none
 | m+1,s=>ZAB (Us m) s
def Jm:I4:=UAK (Us gas)
theorem SAR:Tells ctx PP 101 cv1 cv1 (fun a=>Jm a):=fz cn Tryz.func101 [] KAc (fun _=>ZAB) (fun _ k a=>UAK k a) Us gas (fun s s' h=>by cases s;cases s';cases h;rfl) (fun _ _ s=>by cases s <;> kernel_rfl) fun _ _ _=>by kernel_rfl
abbrev O4:=Int→Int→Option Int
inductive U4 where
 | c0 (a b d:Int)
def LAc:U4→LI
 | .c0 a b d=>(tdo Tryz.f100 2016,[vi 0 a,vi 1 b,vi 5 d],[])
def VAK (z0:Td) (k:U4→Option Int) (a:Int) (b:Int):Option Int:=(z0 b 0 1000000000).bind fun r0=>cond (!r0) (some 0) (cond ((a.tmod 3329)<0) (k (.c0 (w64 ((a.tmod 3329)+3329)) b 1)) (k (.c0 (a.tmod 3329) b 1)))
def WAK (z0:Td) (k:U4→Option Int):U4→Option Int
 | .c0 a b d=>cond (b > 0) (cond ((b.tmod 2) == 1) (k (.c0 ((w64 (a*a)).tmod 3329) (w64 (b.tdiv 2)) ((w64 (d*a)).tmod 3329))) (k (.c0 ((w64 (a*a)).tmod 3329) (w64 (b.tdiv 2)) d))) (some d)
def V4:Nat→U4→Option Int
 | 0,_=>none
 | m+1,s=>WAK Xc (V4 m) s
def Lm:O4:=VAK Xc (V4 gas)
theorem TAR:Tells ctx PP 100 cv30 cv1 (fun a=>Lm a.1 a.2):=fz (cc3 Wi cn) Tryz.func100 [] LAc (fun z=>WAK z.1) (fun z k a=>VAK z.1 k a.1 a.2) V4 gas (fun s s' h=>by cases s;cases s';cases h;rfl) (fun _ _ s=>by cases s <;> kernel_rfl) fun _ _ _=>by kernel_rfl
abbrev XAK:=(List Int)→Option (List Int)
inductive X4 where
 | c0 (a b:Int) (d:(List Int))
 | c1 (a b e:Int) (d:(List Int))
 | c2 (a b:Int) (e f g:Int) (d:(List Int))
def MAc:X4→LI
 | .c0 a b d=>(tdo Tryz.f54 2000,[vo 3 240,vi 4 a,vi 5 b],[(240,.sl 3 d)])
 | .c1 a b e d=>(tdo Tryz.f54 128144,[vo 3 240,vi 4 a,vi 5 b,vi 6 e],[(240,.sl 3 d)])
 | .c2 a b e f g d=>(tdo Tryz.f54 32805488,[vo 3 240,vi 4 a,vi 5 b,vi 6 e,vi 7 f,vi 8 g],[(240,.sl 3 d)])
def YAK (z0:Lj) (z1:I4) (z2:O4) (k:X4→Option (List Int)) (a:(List Int)):Option (List Int):=(z0 a).bind fun r0=>cond (!r0) (some []) (cond (((0+a.length)*8)≤140737488355328) (k (.c0 1 128 ([]++a))) none)
def Nj (z0:Lj) (z1:I4) (z2:O4) (k:X4→Option (List Int)):X4→Option (List Int)
 | .c0 e b d=>cond (b≥2) (k (.c1 e b 0 d)) (some d)
 | .c1 e b f d=>cond (f<256) ((z1 e).bind fun r0=>(z2 17 r0).bind fun r1=>k (.c2 (w64 (e+1)) b f r1 f d)) (k (.c0 e (w64 (b.tdiv 2)) d))
 | .c2 e b f g a d=>cond (a<(w64 (f+b))) (cond (0≤(w64 (a+b))&&(w64 (a+b))<(d.length:Int)) (cond (0≤a&&a<(d.length:Int)) (cond (0≤(w64 (a+b))&&(w64 (a+b))<(d.length:Int)) (cond (0≤a&&a<((d.set (w64 (a+b)).toNat ((w64 ((w64 ((d.getD a.toNat 0) - ((w64 (g*(d.getD (w64 (a+b)).toNat 0))).tmod 3329)))+3329)).tmod 3329)).length:Int)) (cond (0≤a&&a<((d.set (w64 (a+b)).toNat ((w64 ((w64 ((d.getD a.toNat 0) - ((w64 (g*(d.getD (w64 (a+b)).toNat 0))).tmod 3329)))+3329)).tmod 3329)).length:Int)) (k (.c2 e b f g (w64 (a+1)) ((d.set (w64 (a+b)).toNat ((w64 ((w64 ((d.getD a.toNat 0) - ((w64 (g*(d.getD (w64 (a+b)).toNat 0))).tmod 3329)))+3329)).tmod 3329)).set a.toNat ((w64 (((d.set (w64 (a+b)).toNat ((w64 ((w64 ((d.getD a.toNat 0) - ((w64 (g*(d.getD (w64 (a+b)).toNat 0))).tmod 3329)))+3329)).tmod 3329)).getD a.toNat 0)+((w64 (g*(d.getD (w64 (a+b)).toNat 0))).tmod 3329))).tmod 3329)))) none) none) none) none) none) (k (.c1 e b (w64 (f+(w64 (2*b)))) d))
def Ed:Nat→X4→Option (List Int)
 | 0,_=>none
 | m+1,s=>Nj Xg Jm Lm (Ed m) s
def Vs:XAK:=YAK Xg Jm Lm (Ed gas)
theorem NAc:Tells ctx PP 54 cv29 cv17 (fun a=>Vs a):=fz (cc1 YAB (cc1 SAR (cc2 TAR cn))) Tryz.func54 [] MAc (fun z=>Nj z.1 z.2.1 z.2.2.1) (fun z k a=>YAK z.1 z.2.1 z.2.2.1 k a) Ed gas (fun s s' h=>by cases s <;> cases s' <;> first | (cases h;done) | (cases h;rfl) | exact (rg_ne h (by kernel_rfl)).elim) (fun _ _ s=>by cases s <;> kernel_rfl) fun _ _ _=>by kernel_rfl
abbrev ZAK:=Int→Option Int
inductive Y4 where
 | c0 (a b d:Int)
def OAc:Y4→LI
 | .c0 a b d=>(tdo Tryz.f147 464,[vi 0 a,vi 3 b,vi 4 d],[])
def AAL (k:Y4→Option Int) (a:Int):Option Int:=k (.c0 a 1 0)
def AAC (k:Y4→Option Int):Y4→Option Int
 | .c0 a b d=>cond (d<a) (k (.c0 a (w64 (2*b)) (w64 (d+1)))) (some b)
def Ws:Nat→Y4→Option Int
 | 0,_=>none
 | m+1,s=>AAC (Ws m) s
def Oj:ZAK:=AAL (Ws gas)
theorem PAc:Tells ctx PP 147 cv1 cv1 (fun a=>Oj a):=fz cn Tryz.func147 [] OAc (fun _=>AAC) (fun _ k a=>AAL k a) Ws gas (fun s s' h=>by cases s;cases s';cases h;rfl) (fun _ _ s=>by cases s <;> kernel_rfl) fun _ _ _=>by kernel_rfl
abbrev UAR:=(List Int)→Int→Option (ByteArray×Bool)
inductive Z4 where
 | c0 (a:(List Int)) (b h:Int)
 | c1 (a:(List Int)) (b d:Int) (e f:Int) (g:(List Int))
 | c2 (a:(List Int)) (b d:Int) (e f:Int) (g:(List Int))
def QAc:Z4→LI
 | .c0 a b h=>(tdo Tryz.f103 464,[vr 0 3 a,vi 1 b,vi 6 h],[])
 | .c1 a b d e f g=>(tdo Tryz.f103 8144,[vr 0 3 a,vi 1 b,vo 7 496,vi 8 d,vi 9 e,vi 10 f],[(496,.sl 5 g)])
 | .c2 a b d e f g=>(tdo Tryz.f103 1042736,[vr 0 3 a,vi 1 b,vo 7 496,vi 8 d,vi 9 e,vi 10 f],[(496,.sl 5 g)])
def BAL (z0:Td) (z1:ZAK) (k:Z4→Option (ByteArray×Bool)) (b:(List Int)) (a:Int):Option (ByteArray×Bool):=(z0 a 1 12).bind fun r0=>cond (!r0) (some (⟨#[]⟩,false)) (k (.c0 b a 0))
def Xe (z0:Td) (z1:ZAK) (k:Z4→Option (ByteArray×Bool)):Z4→Option (ByteArray×Bool)
 | .c0 a b h=>cond (h<(a.length:Int)) (cond (0≤h&&h<(a.length:Int)) ((z1 b).bind fun r0=>(z0 (a.getD h.toNat 0) 0 (w64 (r0 - 1))).bind fun r1=>cond (!r1) (some (⟨#[]⟩,false)) (k (.c0 a b (w64 (h+1))))) none) (k (.c1 a b 0 0 0 []))
 | .c1 a b g f d e=>cond (d<(a.length:Int)) (cond (0≤d&&d<(a.length:Int)) ((z1 f).bind fun r0=>k (.c2 a b (w64 (g+(w64 ((a.getD d.toNat 0)*r0)))) (w64 (f+b)) d e)) none) (cond (f > 0) (cond (((e.length+1)*1)≤140737488355328) (some (ofBytes (e++[w8 g]),true)) none) (some (ofBytes e,true)))
 | .c2 a b g f d e=>cond (f≥8) (cond (((e.length+1)*1)≤140737488355328) (k (.c2 a b (w64 (g.tdiv 256)) (w64 (f - 8)) d (e++[w8 (g.tmod 256)]))) none) (k (.c1 a b g f (w64 (d+1)) e))
def Jd:Nat→Z4→Option (ByteArray×Bool)
 | 0,_=>none
 | m+1,s=>Xe Xc Oj (Jd m) s
def BAC:UAR:=BAL Xc Oj (Jd gas)
theorem RAc:Tells ctx PP 103 cv31 cv28 (fun a=>BAC a.1 a.2):=fz (cc3 Wi (cc1 PAc cn)) Tryz.func103 [] QAc (fun z=>Xe z.1 z.2.1) (fun z k a=>BAL z.1 z.2.1 k a.1 a.2) Jd gas (fun s s' h=>by cases s <;> cases s' <;> first | (cases h;done) | (cases h;rfl) | exact (rg_ne h (by kernel_rfl)).elim) (fun _ _ s=>by cases s <;> kernel_rfl) fun _ _ _=>by kernel_rfl
abbrev CAL:=(List Int)→Option ByteArray
def DAL (z0:Lj) (z1:UAR) (a:(List Int)):Option ByteArray:=(z0 a).bind fun r0=>cond (!r0) (some ⟨#[]⟩) ((z1 a 12).bind fun r1=>some r1.1)
def Om:CAL:=DAL Xg BAC
theorem SAc:Tells ctx PP 56 cv29 cv8 (fun a=>Om a):=fz0 (cc1 YAB (cc2 RAc cn)) Tryz.func56 [] (fun z a=>DAL z.1 z.2.1 a) fun _ _=>by kernel_rfl
abbrev EAL:=(List Int)→(List Int)→Option (List Int)
inductive D5 where
 | c0 (a b:(List Int)) (d:Int) (e:(List Int))
def TAc:D5→LI
 | .c0 a b d e=>(tdo Tryz.f104 976,[vr 0 3 a,vr 1 3 b,vo 5 368,vi 6 d],[(368,.sl 3 e)])
def FAL (z0:Lj) (z1:I4) (z2:O4) (k:D5→Option (List Int)) (a:(List Int)) (b:(List Int)):Option (List Int):=(z0 a).bind fun r0=>cond (!r0) (some []) ((z0 b).bind fun r1=>cond (!r1) (some []) (k (.c0 a b 0 [])))
def CAC (z0:Lj) (z1:I4) (z2:O4) (k:D5→Option (List Int)):D5→Option (List Int)
 | .c0 b d a e=>cond (a<128) ((z1 a).bind fun r0=>(z2 17 (w64 ((w64 (2*r0))+1))).bind fun r1=>cond (0≤(w64 ((w64 (2*a))+1))&&(w64 ((w64 (2*a))+1))<(b.length:Int)) (cond (0≤(w64 ((w64 (2*a))+1))&&(w64 ((w64 (2*a))+1))<(d.length:Int)) (cond (0≤(w64 (2*a))&&(w64 (2*a))<(b.length:Int)) (cond (0≤(w64 (2*a))&&(w64 (2*a))<(d.length:Int)) (cond (0≤(w64 (2*a))&&(w64 (2*a))<(b.length:Int)) (cond (0≤(w64 ((w64 (2*a))+1))&&(w64 ((w64 (2*a))+1))<(d.length:Int)) (cond (0≤(w64 ((w64 (2*a))+1))&&(w64 ((w64 (2*a))+1))<(b.length:Int)) (cond (0≤(w64 (2*a))&&(w64 (2*a))<(d.length:Int)) (cond (((e.length+2)*8)≤140737488355328) (k (.c0 b d (w64 (a+1)) (e++[(w64 ((w64 ((b.getD (w64 (2*a)).toNat 0)*(d.getD (w64 (2*a)).toNat 0)))+(w64 (((w64 ((b.getD (w64 ((w64 (2*a))+1)).toNat 0)*(d.getD (w64 ((w64 (2*a))+1)).toNat 0))).tmod 3329)*r1)))).tmod 3329,(w64 ((w64 ((b.getD (w64 (2*a)).toNat 0)*(d.getD (w64 ((w64 (2*a))+1)).toNat 0)))+(w64 ((b.getD (w64 ((w64 (2*a))+1)).toNat 0)*(d.getD (w64 (2*a)).toNat 0))))).tmod 3329]))) none) none) none) none) none) none) none) none) none) (some e)
def Dt:Nat→D5→Option (List Int)
 | 0,_=>none
 | m+1,s=>CAC Xg Jm Lm (Dt m) s
def E5:EAL:=FAL Xg Jm Lm (Dt gas)
theorem UAc:Tells ctx PP 104 cv32 cv17 (fun a=>E5 a.1 a.2):=fz (cc1 YAB (cc1 SAR (cc2 TAR cn))) Tryz.func104 [] TAc (fun z=>CAC z.1 z.2.1 z.2.2.1) (fun z k a=>FAL z.1 z.2.1 z.2.2.1 k a.1 a.2) Dt gas (fun s s' h=>by cases s;cases s';cases h;rfl) (fun _ _ s=>by cases s <;> kernel_rfl) fun _ _ _=>by kernel_rfl
abbrev F5:=(List Int)→(List Int)→Option (List Int)
inductive G5 where
 | c0 (a b:(List Int)) (d:Int) (e:(List Int))
def VAc:G5→LI
 | .c0 a b d e=>(tdo Tryz.f57 464,[vr 0 3 a,vr 1 3 b,vo 5 368,vi 6 d],[(368,.sl 3 e)])
def GAL (z0:Lj) (k:G5→Option (List Int)) (a:(List Int)) (b:(List Int)):Option (List Int):=k (.c0 a b 0 [])
def DAC (z0:Lj) (k:G5→Option (List Int)):G5→Option (List Int)
 | .c0 d e a b=>cond (a<256) ((z0 d).bind fun r0=>cond r0 ((z0 e).bind fun r1=>cond r1 (cond (0≤a&&a<(d.length:Int)) (cond (0≤a&&a<(e.length:Int)) (cond (((b.length+1)*8)≤140737488355328) (k (.c0 d e (w64 (a+1)) (b++[(w64 ((d.getD a.toNat 0)+(e.getD a.toNat 0))).tmod 3329]))) none) none) none) (some b)) (some b)) (some b)
def Et:Nat→G5→Option (List Int)
 | 0,_=>none
 | m+1,s=>DAC Xg (Et m) s
def Pj:F5:=GAL Xg (Et gas)
theorem WAR:Tells ctx PP 57 cv32 cv17 (fun a=>Pj a.1 a.2):=fz (cc1 YAB cn) Tryz.func57 [] VAc (fun z=>DAC z.1) (fun z k a=>GAL z.1 k a.1 a.2) Et gas (fun s s' h=>by cases s;cases s';cases h;rfl) (fun _ _ s=>by cases s <;> kernel_rfl) fun _ _ _=>by kernel_rfl
abbrev HAL:=(List (List Int))→(List (List Int))→Option (List Int)
inductive I5 where
 | c0 (a:(List (List Int))) (b:(List (List Int))) (d:Int) (e:(List Int))
def WAc:I5→LI
 | .c0 a b d e=>(tdo Tryz.f58 464,[vr 0 38 a,vr 1 38 b,vo 5 368,vi 6 d],[(368,.sl 3 e)])
def IAL (z0:EAL) (z1:F5) (k:I5→Option (List Int)) (a:(List (List Int))) (b:(List (List Int))):Option (List Int):=k (.c0 a b 0 (List.replicate (256:Int).toNat (0:Int)))
def J5 (z0:EAL) (z1:F5) (k:I5→Option (List Int)):I5→Option (List Int)
 | .c0 b d a e=>cond (a<(b.length:Int)) (cond (0≤a&&a<(b.length:Int)) (cond (0≤a&&a<(d.length:Int)) ((z0 (b.getD a.toNat []) (d.getD a.toNat [])).bind fun r0=>(z1 e r0).bind fun r1=>k (.c0 b d (w64 (a+1)) r1)) none) none) (some e)
def Gt:Nat→I5→Option (List Int)
 | 0,_=>none
 | m+1,s=>J5 E5 Pj (Gt m) s
def Qj:HAL:=IAL E5 Pj (Gt gas)
theorem XAc:Tells ctx PP 58 cv33 cv17 (fun a=>Qj a.1 a.2):=fz (cc2 UAc (cc2 WAR cn)) Tryz.func58 [] WAc (fun z=>J5 z.1 z.2.1) (fun z k a=>IAL z.1 z.2.1 k a.1 a.2) Gt gas (fun s s' h=>by cases s;cases s';cases h;rfl) (fun _ _ s=>by cases s <;> kernel_rfl) fun _ _ _=>by kernel_rfl
abbrev XAN:=ByteArray→Option (SPair×Bool)
inductive O5 where
 | c0 (a b:ByteArray) (d e f:ByteArray) (j:Int) (g:SPair) (h:(List (List Int))) (i:(List (List Int)))
 | c1 (a b:ByteArray) (d e f:ByteArray) (n:Int) (g:SPair) (h:(List (List Int))) (i:(List (List Int)))
def YAc:O5→LI
 | .c0 b d e f g j a h i=>(tdo Tryz.f23 65488,[vp 2 128,vs 4 b,vs 5 d,vs 6 e,vo 7 496,vo 8 560,vs 9 f,vs 10 g,vi 11 j],[(128,.var [.str a.fPublic,.str a.fSecret]),(496,.sl 38 h),(560,.sl 38 i)])
 | .c1 b d e f g n a h i=>(tdo Tryz.f23 131024,[vp 2 128,vs 4 b,vs 5 d,vs 6 e,vo 7 496,vo 8 560,vs 9 f,vs 10 g,vi 13 n],[(128,.var [.str a.fPublic,.str a.fSecret]),(496,.sl 38 h),(560,.sl 38 i)])
def JAL (z0:Qv) (z1:NAK) (z2:RAK) (z3:XAK) (z4:CAL) (z5:HAL) (z6:F5) (k:O5→Option (SPair×Bool)) (a:ByteArray):Option (SPair×Bool):=cond ((a.size:Int) != 32) (some (⟨⟨#[]⟩,⟨#[]⟩⟩,false)) ((z0 a).bind fun r0=>cond ((r0.size+(⟨#[114]⟩:ByteArray).size)≤9223372036854775807) ((z0 (r0++(⟨#[114]⟩:ByteArray))).bind fun r1=>cond ((r0.size+(⟨#[115]⟩:ByteArray).size)≤9223372036854775807) ((z0 (r0++(⟨#[115]⟩:ByteArray))).bind fun r2=>(z1 r1).bind fun r3=>k (.c0 r0 r1 r2 ⟨#[]⟩ ⟨#[]⟩ 0 ⟨⟨#[]⟩,⟨#[]⟩⟩ r3 [])) none) none)
def Rj (z0:Qv) (z1:NAK) (z2:RAK) (z3:XAK) (z4:CAL) (z5:HAL) (z6:F5) (k:O5→Option (SPair×Bool)):O5→Option (SPair×Bool)
 | .c0 f b g a e n j h i=>cond (n<2) ((z2 g n).bind fun r0=>(z3 r0).bind fun r1=>cond (((i.length+1)*24)≤140737488355328) ((z4 r1).bind fun r2=>cond ((e.size+r2.size)≤9223372036854775807) (k (.c0 f b g a (e++r2) (w64 (n+1)) j h (i++[r1]))) none) none) (k (.c1 f b g a e 0 j h i))
 | .c1 f b g a e d j h i=>cond (d<2) (cond (((decide (0≤(w64 (d*2)))) && (decide ((w64 (d*2))≤(w64 ((w64 (d*2))+2))))) && (decide ((w64 ((w64 (d*2))+2))≤(h.length:Int)))) ((z5 ((h.drop (w64 (d*2)).toNat).take ((w64 ((w64 (d*2))+2)).toNat - (w64 (d*2)).toNat)) i).bind fun r0=>(z2 g (w64 (2+d))).bind fun r1=>(z3 r1).bind fun r2=>(z6 r0 r2).bind fun r3=>(z4 r3).bind fun r4=>cond ((a.size+r4.size)≤9223372036854775807) (k (.c1 f b g (a++r4) e (w64 (d+1)) j h i)) none) none) (cond ((a.size+b.size)≤9223372036854775807) (cond ((e.size+(a++b).size)≤9223372036854775807) ((z0 (a++b)).bind fun r5=>cond (((e++(a++b)).size+r5.size)≤9223372036854775807) (cond ((f.size+(⟨#[122]⟩:ByteArray).size)≤9223372036854775807) ((z0 (f++(⟨#[122]⟩:ByteArray))).bind fun r6=>cond ((((e++(a++b))++r5).size+r6.size)≤9223372036854775807) (some (⟨a++b,((e++(a++b))++r5)++r6⟩,true)) none) none) none) none) none)
def Di:Nat→O5→Option (SPair×Bool)
 | 0,_=>none
 | m+1,s=>Rj Gf V3 Ci Vs Om Qj Pj (Di m) s
def P7:XAN:=JAL Gf V3 Ci Vs Om Qj Pj (Di gas)
theorem NAW:Tells ctx PP 23 cv8 cv34 (fun a=>P7 a):=fz (cc1 EAF (cc1 FAc (cc2 IAc (cc1 NAc (cc1 SAc (cc2 XAc (cc2 WAR cn))))))) Tryz.func23 [] YAc (fun z=>Rj z.1 z.2.1 z.2.2.1 z.2.2.2.1 z.2.2.2.2.1 z.2.2.2.2.2.1 z.2.2.2.2.2.2.1) (fun z k a=>JAL z.1 z.2.1 z.2.2.1 z.2.2.2.1 z.2.2.2.2.1 z.2.2.2.2.2.1 z.2.2.2.2.2.2.1 k a) Di gas (fun s s' h=>by cases s <;> cases s' <;> first | ((repeat cases ‹SPair›);cases h;done) | ((repeat cases ‹SPair›);cases h;rfl) | exact (rg_ne h (by kernel_rfl)).elim) (fun _ _ s=>by cases s <;> kernel_rfl) fun _ _ _=>by kernel_rfl
abbrev Sj:=ByteArray→Option ByteArray
def KAL (z0:Qv) (a:ByteArray):Option ByteArray:=(z0 a).bind fun r0=>cond (0≤(4:Int)&&4≤(r0.size:Int)) (some (r0.extract 0 (4:Int).toNat)) none
def Ae:Sj:=KAL Gf
theorem EAC:Tells ctx PP 197 cv8 cv8 (fun a=>Ae a):=fz0 (cc1 EAF cn) Tryz.func197 [] (fun z a=>KAL z.1 a) fun _ _=>by kernel_rfl
abbrev LAL:=ByteArray→Int→Option (List ByteArray)
inductive P5 where
 | c0 (a:ByteArray) (b d:Int) (e:(List ByteArray))
def ZAc:P5→LI
 | .c0 a b d e=>(tdo Tryz.f150 464,[vs 0 a,vi 1 b,vo 5 368,vi 6 d],[(368,.sl 9 e)])
def MAL (z0:Rf) (z1:Sj) (k:P5→Option (List ByteArray)) (a:ByteArray) (b:Int):Option (List ByteArray):=k (.c0 a b 0 [])
def FAC (z0:Rf) (z1:Sj) (k:P5→Option (List ByteArray)):P5→Option (List ByteArray)
 | .c0 a e b d=>cond (b<10) ((z0 e).bind fun r0=>cond ((a.size+r0.size)≤9223372036854775807) ((z0 b).bind fun r1=>cond (((a++r0).size+r1.size)≤9223372036854775807) (cond ((((a++r0)++r1).size+(⟨#[111]⟩:ByteArray).size)≤9223372036854775807) ((z1 (((a++r0)++r1)++(⟨#[111]⟩:ByteArray))).bind fun r2=>cond (((d.length+1)*16)≤140737488355328) (k (.c0 a e (w64 (b+1)) (d++[r2]))) none) none) none) none) (some d)
def Pm:Nat→P5→Option (List ByteArray)
 | 0,_=>none
 | m+1,s=>FAC Tc Ae (Pm m) s
def Q5:LAL:=MAL Tc Ae (Pm gas)
theorem AAd:Tells ctx PP 150 cv10 cv35 (fun a=>Q5 a.1 a.2):=fz (cc1 Np (cc1 EAC cn)) Tryz.func150 [] ZAc (fun z=>FAC z.1 z.2.1) (fun z k a=>MAL z.1 z.2.1 k a.1 a.2) Pm gas (fun s s' h=>by cases s;cases s';cases h;rfl) (fun _ _ s=>by cases s <;> kernel_rfl) fun _ _ _=>by kernel_rfl
abbrev NAL:=ByteArray→Int→Int→Int→Int→Option ByteArray
inductive U5 where
 | c0 (a:ByteArray) (b d:Int) (e f g:Int)
def BAd:U5→LI
 | .c0 a b d e f g=>(tdo Tryz.f196 208,[vs 0 a,vi 1 b,vi 2 d,vi 3 e,vi 4 f,vi 11 g],[])
def OAL (z0:Rf) (z1:Sj) (k:U5→Option ByteArray) (a:ByteArray) (b:Int) (d:Int) (e:Int) (f:Int):Option ByteArray:=k (.c0 a b d e f 0)
def GAC (z0:Rf) (z1:Sj) (k:U5→Option ByteArray):U5→Option ByteArray
 | .c0 a d e f g b=>cond (b<g) (cond (b<15) ((z0 d).bind fun r0=>(z0 e).bind fun r1=>cond ((r0.size+r1.size)≤9223372036854775807) ((z0 (w64 ((f.tmod 256)+b))).bind fun r2=>cond (((r0++r1).size+r2.size)≤9223372036854775807) (cond ((((r0++r1)++r2).size+a.size)≤9223372036854775807) ((z1 (((r0++r1)++r2)++a)).bind fun r3=>k (.c0 r3 d e f g (w64 (b+1)))) none) none) none) (some a)) (some a)
def Ht:Nat→U5→Option ByteArray
 | 0,_=>none
 | m+1,s=>GAC Tc Ae (Ht m) s
def Jt:NAL:=OAL Tc Ae (Ht gas)
theorem CAd:Tells ctx PP 196 cv36 cv8 (fun a=>Jt a.1 a.2.1 a.2.2.1 a.2.2.2.1 a.2.2.2.2):=fz (cc1 Np (cc1 EAC cn)) Tryz.func196 [] BAd (fun z=>GAC z.1 z.2.1) (fun z k a=>OAL z.1 z.2.1 k a.1 a.2.1 a.2.2.1 a.2.2.2.1 a.2.2.2.2) Ht gas (fun s s' h=>by cases s;cases s';cases h;rfl) (fun _ _ s=>by cases s <;> kernel_rfl) fun _ _ _=>by kernel_rfl
abbrev PAL:=(List ByteArray)→Int→Option ByteArray
inductive V5 where
 | c0 (a:(List ByteArray)) (b:Int) (d:ByteArray) (e:Int)
def DAd:V5→LI
 | .c0 a b d e=>(tdo Tryz.f149 976,[vr 0 9 a,vi 1 b,vs 5 d,vi 6 e],[])
def QAL (z0:NAL) (z1:Sj) (k:V5→Option ByteArray) (a:(List ByteArray)) (b:Int):Option ByteArray:=cond ((a.length:Int) != 10) (some ⟨#[]⟩) (k (.c0 a b ⟨#[]⟩ 0))
def HAC (z0:NAL) (z1:Sj) (k:V5→Option ByteArray):V5→Option ByteArray
 | .c0 b e d a=>cond (a<10) (cond (0≤a&&a<(b.length:Int)) ((z0 (b.getD a.toNat (⟨#[]⟩:ByteArray)) e a 0 15).bind fun r0=>cond ((d.size+r0.size)≤9223372036854775807) (k (.c0 b e (d++r0) (w64 (a+1)))) none) none) ((z1 d).bind fun r1=>some r1)
def Qm:Nat→V5→Option ByteArray
 | 0,_=>none
 | m+1,s=>HAC Jt Ae (Qm m) s
def X5:PAL:=QAL Jt Ae (Qm gas)
theorem EAd:Tells ctx PP 149 cv37 cv8 (fun a=>X5 a.1 a.2):=fz (cc5 CAd (cc1 EAC cn)) Tryz.func149 [] DAd (fun z=>HAC z.1 z.2.1) (fun z k a=>QAL z.1 z.2.1 k a.1 a.2) Qm gas (fun s s' h=>by cases s;cases s';cases h;rfl) (fun _ _ s=>by cases s <;> kernel_rfl) fun _ _ _=>by kernel_rfl
abbrev TAN:=ByteArray→Option (List ByteArray)
inductive Y5 where
 | c0 (a:ByteArray) (b:Int) (d:(List ByteArray))
def FAd:Y5→LI
 | .c0 a b d=>(tdo Tryz.f106 464,[vs 0 a,vo 3 240,vi 4 b],[(240,.sl 9 d)])
def RAL (z0:LAL) (z1:PAL) (k:Y5→Option (List ByteArray)) (a:ByteArray):Option (List ByteArray):=k (.c0 a 0 [])
def IAC (z0:LAL) (z1:PAL) (k:Y5→Option (List ByteArray)):Y5→Option (List ByteArray)
 | .c0 d a b=>cond (a<4) ((z0 d a).bind fun r0=>(z1 r0 a).bind fun r1=>cond (((b.length+1)*16)≤140737488355328) (k (.c0 d (w64 (a+1)) (b++[r1]))) none) (some b)
def Kt:Nat→Y5→Option (List ByteArray)
 | 0,_=>none
 | m+1,s=>IAC Q5 X5 (Kt m) s
def H7:TAN:=RAL Q5 X5 (Kt gas)
theorem IAW:Tells ctx PP 106 cv8 cv35 (fun a=>H7 a):=fz (cc2 AAd (cc2 EAd cn)) Tryz.func106 [] FAd (fun z=>IAC z.1 z.2.1) (fun z k a=>RAL z.1 z.2.1 k a) Kt gas (fun s s' h=>by cases s;cases s';cases h;rfl) (fun _ _ s=>by cases s <;> kernel_rfl) fun _ _ _=>by kernel_rfl
abbrev SAL:=Int→Int→ByteArray→ByteArray→Option ByteArray
def TAL (z0:Rf) (z1:Sj) (d:Int) (e:Int) (a:ByteArray) (b:ByteArray):Option ByteArray:=(z0 d).bind fun r0=>(z0 e).bind fun r1=>cond ((r0.size+r1.size)≤9223372036854775807) (cond (((r0++r1).size+a.size)≤9223372036854775807) (cond ((((r0++r1)++a).size+b.size)≤9223372036854775807) (cond (((((r0++r1)++a)++b).size+(⟨#[110]⟩:ByteArray).size)≤9223372036854775807) ((z1 ((((r0++r1)++a)++b)++(⟨#[110]⟩:ByteArray))).bind fun r2=>some r2) none) none) none) none
def Tj:SAL:=TAL Tc Ae
theorem GAd:Tells ctx PP 195 cv38 cv8 (fun a=>Tj a.1 a.2.1 a.2.2.1 a.2.2.2):=fz0 (cc1 Np (cc1 EAC cn)) Tryz.func195 [] (fun z a=>TAL z.1 z.2.1 a.1 a.2.1 a.2.2.1 a.2.2.2) fun _ _=>by kernel_rfl
abbrev UAL:=Int→(List ByteArray)→Option (List ByteArray)
inductive Z5 where
 | c0 (a:Int) (b:(List ByteArray)) (d:Int) (e:(List ByteArray))
def HAd:Z5→LI
 | .c0 a b d e=>(tdo Tryz.f148 464,[vi 0 a,vr 1 9 b,vo 5 368,vi 6 d],[(368,.sl 9 e)])
def JAC (z0:SAL) (k:Z5→Option (List ByteArray)) (a:Int) (b:(List ByteArray)):Option (List ByteArray):=k (.c0 a b 0 [])
def Sm (z0:SAL) (k:Z5→Option (List ByteArray)):Z5→Option (List ByteArray)
 | .c0 e b a d=>cond ((w64 ((w64 (2*a))+1))<(b.length:Int)) (cond (0≤(w64 (2*a))&&(w64 (2*a))<(b.length:Int)) (cond (0≤(w64 ((w64 (2*a))+1))&&(w64 ((w64 (2*a))+1))<(b.length:Int)) ((z0 e a (b.getD (w64 (2*a)).toNat (⟨#[]⟩:ByteArray)) (b.getD (w64 ((w64 (2*a))+1)).toNat (⟨#[]⟩:ByteArray))).bind fun r0=>cond (((d.length+1)*16)≤140737488355328) (k (.c0 e b (w64 (a+1)) (d++[r0]))) none) none) none) (some d)
def Uj:Nat→Z5→Option (List ByteArray)
 | 0,_=>none
 | m+1,s=>Sm Tj (Uj m) s
def Um:UAL:=JAC Tj (Uj gas)
theorem IAd:Tells ctx PP 148 cv39 cv35 (fun a=>Um a.1 a.2):=fz (cc4 GAd cn) Tryz.func148 [] HAd (fun z=>Sm z.1) (fun z k a=>JAC z.1 k a.1 a.2) Uj gas (fun s s' h=>by cases s;cases s';cases h;rfl) (fun _ _ s=>by cases s <;> kernel_rfl) fun _ _ _=>by kernel_rfl
abbrev UAN:=(List ByteArray)→Option ByteArray
inductive D6 where
 | c0 (a:(List ByteArray)) (b:Int)
 | c1 (b:Int) (a:(List ByteArray))
def JAd:D6→LI
 | .c0 a b=>(tdo Tryz.f105 464,[vr 0 9 a,vi 3 b],[])
 | .c1 b a=>(tdo Tryz.f105 464,[vo 0 48,vi 3 b],[(48,.sl 9 a)])
def VAL (z0:UAL) (k:D6→Option ByteArray) (a:(List ByteArray)):Option ByteArray:=cond ((a.length:Int) != 4) (some ⟨#[]⟩) (k (.c0 a 1))
def F6 (z0:UAL) (k:D6→Option ByteArray):D6→Option ByteArray
 | .c0 a b=>cond (b≤2) ((z0 b a).bind fun r0=>k (.c1 (w64 (b+1)) r0)) (cond (0≤(0:Int)&&0<(a.length:Int)) (some (a.getD (0:Int).toNat (⟨#[]⟩:ByteArray))) none)
 | .c1 b a=>cond (b≤2) ((z0 b a).bind fun r0=>k (.c1 (w64 (b+1)) r0)) (cond (0≤(0:Int)&&0<(a.length:Int)) (some (a.getD (0:Int).toNat (⟨#[]⟩:ByteArray))) none)
def Ot:Nat→D6→Option ByteArray
 | 0,_=>none
 | m+1,s=>F6 Um (Ot m) s
def I7:UAN:=VAL Um (Ot gas)
theorem JAW:Tells ctx PP 105 cv40 cv8 (fun a=>I7 a):=fz (cc2 IAd cn) Tryz.func105 [] JAd (fun z=>F6 z.1) (fun z k a=>VAL z.1 k a) Ot gas (fun s s' h=>by cases s <;> cases s' <;> first | (cases h;done) | (cases h;rfl) | exact (rg_ne h (by kernel_rfl)).elim) (fun _ _ s=>by cases s <;> kernel_rfl) fun _ _ _=>by kernel_rfl
end
end Go.Proofs.YtnmmhkanpfmaaaaGreatDoor.G
