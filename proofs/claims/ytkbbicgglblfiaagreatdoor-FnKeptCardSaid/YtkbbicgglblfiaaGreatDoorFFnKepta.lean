/- Functions of the program, told by plain functions: part 1 of 2. -/
import Derived.Test.YtkbbicgglblfiaaGreatDoorCtx
namespace Go.Proofs.YtkbbicgglblfiaaGreatDoor.G
open Go Go.Ev
noncomputable section
set_option linter.unusedVariables false
set_option maxRecDepth 100000
set_option maxHeartbeats 4000000
set_option linter.unusedSectionVars false
variable [PC]
abbrev AwF:=Fk ctx PP
abbrev AsN:=ATo ctx
abbrev DAU:=Unit->Option Bool
abbrev PAt:=Unit->Option DZ
abbrev EAU:=DZ->Option (Int×DZ)
abbrev AwJ:=DZ->Int->Option (Int×DZ)
abbrev Yv:=Int->Int->Option AA
abbrev AsG:=Option (List Int)
abbrev Ie:=List Int->Option AA
abbrev QAt:=Option IW
abbrev AwU:=Int->Int->Int->Option Bool
abbrev qY:=IW->Option Bool
abbrev IAh:=AA->Int->Option Int
abbrev H6:=AA->Option (List Int)
abbrev RAt:=Int->Int->Int->Option Int
abbrev JAh:=Int->Int->Int->Int->Bool->Option Int
abbrev qZ:=List Int->List Int->AA->Option (List Int)
abbrev SAt:=IW->AA->Option IW
abbrev TAt:=IW->Option AA
abbrev RZ:=AA->Option AA
abbrev Arr:=Option Bo
abbrev CG:=Int->Option AA
abbrev OD:=Af->Option Bool
abbrev UAt:=Bool->Int->Option Int
abbrev Awt:=Af->Option (AA×Bool)
abbrev Aq9:=Ah->Option (AA×Bool)
abbrev AsK:=Bo->Option Bool
abbrev Ql:=Bo->Option Bo
abbrev Aqk:=Bo->Int->Option (Af×Bool)
abbrev eu:=Af->Af->Option Bool
abbrev KAh:=List Af->Af->Option (List Af)
abbrev Qr:=Bo->Ah->Option (Bo×Bool)
abbrev VK:=AA->Int->Option AA
abbrev Ro:=AA->AA->Option AA
abbrev Yw:=AA->Int->Int->Option (AA×Bool)
abbrev Yx:=AA->Int->AA->Option AA
abbrev LV:=AA->Int->AA->Option (AA×Bool)
abbrev qc:=Int->AA->Option Int
abbrev Yy:=AA->Option Int
abbrev Aqn:=AA->Option (AA×Bool)
abbrev XM:=AA->Int->Ah->Option (List Ef×Bool)
abbrev FAU:=AA->Option Bool
abbrev Arj:=BU->Option Bool
abbrev ArW:=BU->AA->Option Int
abbrev qg:=BU->BQ->Option BU
abbrev Yz:=BU->AA->Option BU
abbrev Y0:=BU->Ef->Option (BU×Bool)
abbrev VH:=BU->List Ef->Option (BU×Int)
abbrev GAU:=AA->BU->Int->Ah->Option BU
abbrev eU:=AA->AA->Option (Ap×Bool)
abbrev qW:=AA->AA->Option (Bg×Bool)
abbrev fA:=DZ->Int->Option (Bool×DZ)
abbrev LAh:=DZ->List Int->Option (Int×DZ)
abbrev HAU:=DZ->List AA->Option (AA×DZ)
abbrev VAt:=DZ->Int->Option (AA×DZ)
abbrev MAh:=DZ->Option (Af×DZ)
abbrev Avl:=Ap->Option AA
abbrev Avv:=AA->AA->Option (AA×Bool)
abbrev WAt:=DZ->Ap->AA->Option (CV×DZ)
abbrev NAh:=DZ->Bg->Option (DW×DZ×Bg)
abbrev Qj:=Bg->Int->AA->Option Bg
abbrev fB:=Int->AA->Option (List Ah×Int×AA)
abbrev En:=Int->Option Int
abbrev fC:=List Ah->AA->Option (List Ah×Int×AA)
abbrev JE:=Ap->Int->Option Int
abbrev AsE:=Ap->CV->Option (List Ah×Int×AA)
abbrev qh:=Int->AA->Option (Af×Bool)
abbrev IAU:=Af->Option (List Ah)
abbrev Y1:=Ap->CV->Af->Bool->Option (List Ah×Int×AA)
abbrev XAt:=AA->AA->Option Bool
abbrev Qo:=AA->Int->Option (Int×Int×Bool)
abbrev Y2:=Jz->Option (Int×Jz)
abbrev JAU:=Jz->Int->Option (AA×Jz)
abbrev YAt:=Jz->Option (AA×Jz)
abbrev Y3:=AA->Option (Af×Bool)
abbrev qj:=Af->Option Af
abbrev ql:=Af->Int->Option Bool
abbrev OAh:=Ap->Af->Option Int
abbrev AwH:=AA->Int->Option (List AA)
abbrev Rf:=AA->Int->Int->Int->Int->Option AA
abbrev Y4:=List AA->Int->Option AA
abbrev Y5:=AA->Option (List AA)
abbrev Y6:=Int->Int->AA->AA->Option AA
abbrev Rh:=Int->List AA->Option (List AA)
abbrev qm:=List AA->Option AA
abbrev qo:=List AA->Int->AA->Option (List AA)
abbrev qp:=List AA->Int->Option (List AA)
abbrev qw:=AA->Int->AA->Option (IL×Bool)
abbrev qx:=AA->Int->AA->Option (Nl×Bool)
abbrev Y7:=IL->Option Bool
abbrev qy:=IL->Option (AA×Bool)
abbrev rC:=Nl->Option (AA×Bool)
abbrev Ri:=Ap->CV->Af->Option (List Ah×Int×AA)
abbrev Fe:=Int->Int->Option Int
abbrev PAh:=List Int->List Int->Int->Option (List Int)
abbrev FQ:=List Int->Option (List Int)
abbrev rD:=AA->Int->Int->Option AA
abbrev ArN:=AA->Option F6
abbrev ArX:=F6->Int->Option (F6×AA)
abbrev Y8:=AA->Int->Int->Option (List Int)
abbrev QAh:=AA->Option (List (List Int))
abbrev Y9:=AA->Int->Option (AA×Bool)
abbrev TM:=AA->Int->Option (List Int)
abbrev Av0:=List Int->Option Bool
abbrev ZAt:=List Int->Int->Option (AA×Bool)
abbrev Aq1:=List Int->List Int->Option (List Int)
abbrev Rj:=List (List Int)->List (List Int)->Option (List Int)
abbrev ZA:=AA->Option (Ky×Bool)
abbrev rE:=AA->Option (List (List Int)×Bool)
abbrev rF:=AA->AA->Option (List Int×Bool)
abbrev rG:=List Int->Int->Option AA
abbrev RAh:=AA->AA->Option (AA×AA×Bool)
abbrev rH:=Af->Bool->Bool->Option (Af×Bool)
abbrev rJ:=Af->Option AA
abbrev qU:=BU->List Int->Option (BU×Bool)
abbrev eG:=BU->List Ef->Int->List Int->Option (BU×Bool)
abbrev AwE:=BU->AA->Option (AA×Bool)
abbrev ZB:=AA->Option (List AA×Int)
abbrev ZC:=AA->Option (Ah×Bool)
abbrev Aq8:=AA->AA->Option (List Ah×Int)
abbrev rM:=Bg->Ah->Option Bg
abbrev AsO:=Ap->Option Ap
abbrev SAh:=AA×Bool×List BQ×AA×Int×Unit×Int×AA×Int×Unit×Unit×Int->Option Ap
abbrev Yq:=Bg->Ah->List Int->Option Bg
abbrev TAh:=List CS->Int->Int->Option (List CS)
abbrev Yr:=Ap->CV->Int->Int->Option Ap
abbrev Aqm:=Bg->Int->DW->Option Bg
abbrev VJ:=Bo->Bo->Option Bool
abbrev Yu:=Bo->List Ah->Option (Bo×Bool)
abbrev RV:=AA->BU->Option (Bo×List Ef×Bool)
abbrev Om:=Ap->Option Bool
abbrev rO:=Ap->Option (Ap×Bool)
abbrev ARH:=DZ->Unit->Option (PO×DZ)
abbrev BAu:=Unit->Option (AA×AA×List DW)
abbrev UAh:=List Int->AA->Option (List Int)
abbrev CAu:=List Int->AA->Option (List Int×AA)
abbrev DAu:=Af->Option Int
abbrev VAh:=Int->Option (AA×Bool)
abbrev WY:=BU->Option BU
abbrev KAU:=Bo->Int->Option Int
abbrev EAu:=Bo->Af->Option (Bool×Bo)
abbrev LAU:=Ap->Ah->Option (Bool×Ap)
abbrev Wh:=CV->Option Bool
abbrev Yt:=DW->Option Bool
abbrev FAu:=List Af->List Af->Option Bool
abbrev GAu:=Kw->Option (Int×Kw)
abbrev WAh:=AA->Int->Option (AA×Int×Bool)
abbrev HAu:=Kw->Option (AA×Kw)
abbrev XAh:=Bg->Option Bg
abbrev fD:=Int->Option (List Ah×Int×AA)
abbrev fE:=List Int->Int->Option (List Int)
abbrev YBD:=List Int->Int->Int->Bool->Bool->Option (List Int×AA)
abbrev IAu:=List AA->Int->Nat->Nat->Option AA
abbrev JAu:=List AA->Int->Option Bool
abbrev YAh:=AA->Int->Option (List (List Int))
abbrev ZAh:=List (List Int)->Option (List (List Int))
abbrev AIU:=AA->Int->Bool->Option (List (List Int))
abbrev KAu:=List Int->List Int->Nat->Option (List Int)
abbrev LAu:=AA->Int->Int->Option (List Int×Bool)
abbrev BAi:=Ap->Int->Int->Option Ap
abbrev CAi:=Bg->DW->Int->Option Bg
abbrev MAU:=AA->AA->List DW->Option (Bg×Bool)
abbrev MAu:=List Ah->List Ah->Option Bool
abbrev NAu:=BU->BU->Option Bool
abbrev NAU:=Bg->Option Bool
abbrev OAU:=List Ah->Option Bool
abbrev PAU:=List D8->Option Bool
abbrev EAi:=List D8->Int->Option (List Int)
def Sl (a:Int):Bool:=decide (0<=a)
def MZ (a b:Int):Bool:=decide (a<b)
def Avx (a b:Int):Bool:=(Sl a) && (MZ a b)
def IK:AA:=⟨#[]⟩
def ZBD:BQ:=(⟨IK,IK,0⟩:BQ)
def AwC (a b:AA):Bool:=decide ((a.size+b.size)<=9223372036854775807)
def Ii (a:Nat) (b c:Int):Int:=((BitVec.toNat ((BitVec.ofInt a b) ^^^ (BitVec.ofInt a c)):Nat):Int)
def Ej (a:Nat):Bool:=decide (a<=140737488355328)
def Wy (a:AA):List UInt8:=ByteArray.toList a
def EU (a b:AA):Bool:=(Wy a) == (Wy b)
def BN (a:Int):Nat:=a.toNat
def Ib (a:List BQ) (b:Int):BQ:=a.getD (BN b) ZBD
def DY (b:Option (List Ah×Int×AA)):Option (List Ah×Int×AA):=b.bind fun a=>some (a.1,a.2.1,a.2.2)
def Jd:Nat:=IntKind.bits IntKind.u32
def Ad (a:Int):Int:=AV a
def Aw6 (a:Int):Int:=Ad (a+1)
def BF (a:AA):Int:=(a.size:Int)
def AwQ (a b:Int):Bool:=decide (a<=b)
def GL (a b:Int):Bool:=(Sl a) && (AwQ a b)
def Arn (a:List Int) (b:Int):Int:=a.getD (BN b) 0
def NZ (a:List Int):Int:=(a.length:Int)
def H7:Nat:=IntKind.bits IntKind.i64
def Ia (a:DZ):DZ:=⟨(),a.fI,a.AyA⟩
def Nw (b:Option Bool) (c d:Option (BU×Bool)):Option (BU×Bool):=b.bind fun a=>cond (!a) c d
def Eb (a:List Af) (b:Int) (c:Af):Af:=a.getD (BN b) (c:Af)
def OAu:List Int:=[(1116352408:Int),(1899447441:Int),(3049323471:Int),(3921009573:Int),(961987163:Int),(1508970993:Int),(2453635748:Int),(2870763221:Int),(3624381080:Int),(310598401:Int),(607225278:Int),(1426881987:Int),(1925078388:Int),(2162078206:Int),(2614888103:Int),(3248222580:Int),(3835390401:Int),(4022224774:Int),(264347078:Int),(604807628:Int),(770255983:Int),(1249150122:Int),(1555081692:Int),(1996064986:Int),(2554220882:Int),(2821834349:Int),(2952996808:Int),(3210313671:Int),(3336571891:Int),(3584528711:Int),(113926993:Int),(338241895:Int),(666307205:Int),(773529912:Int),(1294757372:Int),(1396182291:Int),(1695183700:Int),(1986661051:Int),(2177026350:Int),(2456956037:Int),(2730485921:Int),(2820302411:Int),(3259730800:Int),(3345764771:Int),(3516065817:Int),(3600352804:Int),(4094571909:Int),(275423344:Int),(430227734:Int),(506948616:Int),(659060556:Int),(883997877:Int),(958139571:Int),(1322822218:Int),(1537002063:Int),(1747873779:Int),(1955562222:Int),(2024104815:Int),(2227730452:Int),(2361852424:Int),(2428436474:Int),(2756734187:Int),(3204031479:Int),(3329325298:Int)]
def Awo:Nat:=IntKind.bits IntKind.u64
def Awx (a:AA):AA:=(a:AA)
def Aqt (a:BU) (b:Int):BQ:=Ib a.Ak b
def IZ:BU:=⟨[]⟩
def Mc:Bo:=⟨IK,0,[],0,IK,0⟩
def Ic (a:List BQ) (b:Int):Int:=BF (Ib a b).fText
def Qa:Int:=(0:Int)
def Ot (a:Nat) (b c:Int):Int:=((BitVec.toNat ((BitVec.ofInt a b) &&& (BitVec.ofInt a c)):Nat):Int)
def NP (c:fA) (d:DZ) (e:DW) (b:Bg) (f:DW):Option (DW×DZ×Bg):=(c (Ia d) 30).bind fun a=>cond a.1 (some (e,Ia a.2,b)) (some (f,Ia a.2,b))
def AwT (a:Int) (b:Nat):Bool:=Avx a (b:Int)
def AwP (a:List Ah) (b:Int) (c:AA) (d:Af):Ah:=a.getD (BN b) (⟨0,c,0,d⟩:Ah)
def Kq (b a c:Int):Bool:=(GL b a) && (AwQ a c)
def Arx (a:Int):Int:=Ad ((a.tmod 56)*3)
def Ar8 (a:Ap):Bo:=a.AU
def Wi (a:Bg):Bo:=Ar8 a.AX
def ZE (c:Aq9) (d:Ah) (e:Bool) (b:Option (Ah×Bool)) (f:AA) (g:Option (Ah×Bool)):Option (Ah×Bool):=(c d).bind fun a=>cond e b (cond (!a.2) b (cond (!(EU a.1 f)) b g))
def PAu:AA:=Awx ⟨#[48,48,48,49,48,50,48,51,48,52,48,53,48,54,48,55,48,56,48,57,49,48,49,49,49,50,49,51,49,52,49,53,49,54,49,55,49,56,49,57,50,48,50,49,50,50,50,51,50,52,50,53,50,54,50,55,50,56,50,57,51,48,51,49,51,50,51,51,51,52,51,53,51,54,51,55,51,56,51,57,52,48,52,49,52,50,52,51,52,52,52,53,52,54,52,55,52,56,52,57,53,48,53,49,53,50,53,51,53,52,53,53,53,54,53,55,53,56,53,57,54,48,54,49,54,50,54,51,54,52,54,53,54,54,54,55,54,56,54,57,55,48,55,49,55,50,55,51,55,52,55,53,55,54,55,55,55,56,55,57,56,48,56,49,56,50,56,51,56,52,56,53,56,54,56,55,56,56,56,57,57,48,57,49,57,50,57,51,57,52,57,53,57,54,57,55,57,56,57,57]⟩
def AxJ (a:Int):Nat:=BN (Ad a)
def VW (a:Nat) (b:Int):Int:=((BitVec.toNat ((BitVec.ofInt a b) &&& (BitVec.ofInt a 1)):Nat):Int)
def VI (a b:Int):Bool:=(decide (a<=a)) && (decide (0<b))
def Ig (a:List AA) (b:Int) (c:AA):AA:=a.getD (BN b) (Awx c)
def GR (a:List Int):Bool:=Nat.beq 25 a.length
def Aq3 (a b:Nat):Int:=2 ^ (Min.min a b)
def Awe (a:Int) (b:List Int):Bool:=Avx (Ad a) (NZ b)
def Ar3:Nat:=IntKind.bits IntKind.u8
def Md (a:Ap):List EG:=a.BP
def Qb (a:BU×Bool):Option (BU×Bool):=some a
def Aw1 (a:Arj) (b:BU) (c d:BU×Bool):Option (BU×Bool):=Nw (a b) (Qb c) (Qb d)
def Avz (a:Arj) (b:BU) (c d:BU×Bool):Option (BU×Bool):=Nw (a b) (Qb c) (Qb d)
def Aw3 (a b:Int):Int:=Ad (a+b)
def NQ (a b:Int):Int:=Aw3 (Ad a) (Ad b)
def Awi (b:Option AA):Option AA:=b.bind fun a=>some a
def DC (a:Bo):List Af:=a.AZ
def Oi (a:Bo):Nat:=(DC a).length
def Uj (a:BU) (b:Int):AA:=(Aqt a b).fText
def Tt:AA:=⟨#[98,111,111,107,43]⟩
def AxK (a:BU):Nat:=a.Ak.length
def Pz (a:AA):Bool:=decide (a.size<=9223372036854775807)
def Aws (a:Bool) (b c:Option Bool):Option Bool:=cond a b c
def Aqs (b c d:Option Bool):Option Bool:=b.bind fun a=>Aws a c d
def Qp (a:Int):List Int:=List.replicate (BN a) Qa
def Rk (a:List BQ):Bool:=Ej ((a.length+1)*40)
def ZF (a:List BQ) (b:Int):List BQ:=(a.drop 0).take ((BN b) - 0)
def QAu (a:Int) (b:List BQ) (c:BQ):Option BU:=cond (GL a (b.length:Int)) (cond (Ej ((ZF b a).length*40)) (cond (Rk (ZF b a)) (cond (GL a (b.length:Int)) (cond (Ej ((((ZF b a)++[c]).length+((b.drop (BN a)).take (b.length - (BN a))).length)*40)) (some ⟨((ZF b a)++[c])++((b.drop (BN a)).take (b.length - (BN a)))⟩) none) none) none) none) none
def Qd (a:List AA):Int:=(a.length:Int)
def Jb (a:Af):Int:=a.Aj
def QAU (f:Af) (a:Int) (b c:Bool) (d e:Option Bool):Option Bool:=Aws ((Jb f) == 1) (Aws (a == 1) (some b) (Aws c d e)) (Aws (a == 2) (some b) (Aws c d e))
def Aqz (a:Af):AA:=a.fValue
def rP (a:Af):Option Bool:=some (decide ((BF (Aqz a))<=100))
def AqZ (a b:Int):Int:=Ad (a - b)
def Aqh:Int:=AqZ (168:Int) Qa
def Ari (a:Af):Bool:=a.GH
def FK (a:Af):Bool:=a.Gw
def W9 (a:Af) (b c:Bool):Af:=⟨a.fId,Jb a,b,c,FK a,Ari a,Aqz a,a.fNext⟩
def ArD (a:AA) (b c:Int):AA:=a.extract (BN b) (AxJ c)
def Arb (a:List EG) (b:Int) (c:EG):EG:=a.getD (BN b) (c:EG)
def AsI (a:Int) (b:List Int):Bool:=Avx a (NZ b)
def JG (a:List Int):Bool:=Nat.beq 8 a.length
def Qh (a:Int):Int:=Ad (a.tdiv 2)
def Jc (a:BU) (b:Int):Int:=(Aqt a b).J3
def XA (a:BU) (b:Int) (c:Ef):BQ:=⟨(Aqt a b).fName,(Uj a b)++c.fText,Jc a b⟩
def FAi:CS:=(⟨0,0⟩:CS)
def AwZ (a:Bool) (b:Option AA):Option AA:=cond a b none
def RAU (a:DZ):Int:=Ad ((Ad (a.AyA*6364136223846793005))+1442695040888963407)
def VG (a:BQ) (b:AA) (c:Nat):BQ:=(⟨a.fName,b.extract 0 c,a.J3⟩:BQ)
def LU (a:Nat):Bool:=Ej (a*16)
def Pn (a:List AA):Bool:=LU (a.length+1)
def HAi (a:Int):Bool:=((Sl a) && (decide (a<=a))) && (decide (a<=9223372036854775807))
def Qn (b:Option Bg):Option Bg:=b.bind fun a=>some a
def Qw:AA:=⟨#[98,111,111,107]⟩
def Avb (a:AA) (b:Int):Int:=Ad (bt a b)
def fF (a:F6×AA) (b:Int):Int:=NQ (bt a.2 (Arx b)) (256*((Avb a.2 (Aw6 (Arx b))).tmod 16))
def He (a:Ap):Nat:=(Md a).length
def ZG (a:Int):Int:=(Ad a).tmod 3329
def fG (a b:Int):Int:=ZG (a*b)
def Ud (a:List Int) (b:Int):Int:=Arn a (Ad b)
def SAU (a:List Int) (b c d:Int):List Int:=a.set (AxJ (b+c)) (ZG ((AqZ (Arn a b) (fG d (Ud a (b+c))))+3329))
def RAu (b c a:Int×Kw) (d:AA×Kw) (e:Int×Kw):Af:=⟨b.1,c.1,(Ad (VW H7 a.1)) != 0,(Ad ((BitVec.toNat ((BitVec.ofInt H7 a.1) &&& (BitVec.ofInt H7 2)):Nat):Int)) != 0,(Ad ((BitVec.toNat ((BitVec.ofInt H7 a.1) &&& (BitVec.ofInt H7 4)):Nat):Int)) != 0,(Ad ((BitVec.toNat ((BitVec.ofInt H7 a.1) &&& (BitVec.ofInt H7 8)):Nat):Int)) != 0,d.1,e.1⟩
def JF (a:Int):Bool:=decide (a>=0)
def Eo (a:Bool) (b:Option (AA×Bool)):Option (AA×Bool):=cond a b none
def NR (b:Int) (c:Bool) (a d:Option (BU×Bool)) (e:Bool) (f:Option (BU×Bool)):Option (BU×Bool):=cond (b == 3) (cond c a d) (cond e f a)
def fH (a:AA) (b:Int):Int:=NQ (bt a (Arx b)) (256*((Avb a (Aw6 (Arx b))).tmod 16))
def Aqu (a:Ap):Int:=(Ar8 a).BM
def Awg (a:Ap):Int:=Aw6 (Aqu a)
def Av5 (a:Bo):Int:=Aw6 a.fCount
def ArS (a:Ah):Af:=a.Ag
def XB (a:Bo) (b:List Af) (c:Ah) (d:AA) (e:Bo):Bo:=⟨a.Bv,a.DU,b,(ArS c).fId,d,Av5 e⟩
def NS (a:List Int):Bool:=Ej ((a.length+1)*1)
def rQ (a b:BQ):Bool:=Op.bytesLess (Wy a.fName) (Wy b.fName)
def AsL (a:BU) (b:Int):Int:=BF (Uj a b)
def XC (a:BU) (b:Int):BQ:=⟨(Aqt a b).fName,Uj a b,AsL a b⟩
def Aqq (a:AA) (b:Int):AA:=a.extract (BN b) a.size
def Avq (a:Ap):List BQ:=a.Bc.Ak
def Aw2 (a:Bg):List AA:=a.EN
def AxD (a:CV):Int:=a.EJ
def TAU (a:CV×DZ) (b:Bg) (c:Int×DZ):CV:=⟨a.1.Au,AxD a.1,a.1.Ag,a.1.Aj,Ig (Aw2 b) c.1 IK,a.1.CY,a.1.CX⟩
def Ard (a:List Int):Bool:=Ej ((a.length+1)*8)
def XD (a:Bo) (b:List Af) (c:AA) (d:Bo):Bo:=⟨a.Bv,a.DU,b,a.BM,c,Av5 d⟩
def UAU (a:Int):Int:=((BitVec.toNat ((BitVec.ofInt H7 a) ^^^ (BitVec.ofInt H7 1)):Nat):Int)
def AxA:AA:=Awx ⟨#[116]⟩
def Awl:Int:=(1:Int)
def ArO (a:List Int):Option AA:=some (ofBytes a)
def Avo (a:Int):Int:=Aw6 (Ad (2*a))
def rU (b:Int) (c:AA) (d a:Int):Int:=Aw3 b (Ad (((Avb c (Aw3 d a)).tmod 128)*(Aq3 (AxJ (7*a)) H7)))
def Arf (a:Int):Bool:=decide (a > 0)
def LZ (a:AA×Bool):Option (AA×Bool):=some a
def NT (a:Ef):Bool:=EU a.I8 a.fName
def Rl (a b:List Int):Bool:=Nat.beq a.length b.length
def XE (a:Ef):BQ:=⟨a.fName,(Awx IK)++a.fText,0⟩
def Avd (a:Int):Bool:=decide (a<0)
def ZH:AA:=⟨#[112,111,108,105,99,121]⟩
def Avw (a:Int):Int:=wu64 a
def IAi (a:Int):Int:=Avw ((BitVec.toNat ((BitVec.ofInt Awo (Avw a)) &&& (BitVec.ofInt Awo 31)):Nat):Int)
def JAi (a:Int):Int:=Avw ((BitVec.toNat ((BitVec.ofInt Awo (Avw a)) &&& (BitVec.ofInt Awo 63)):Nat):Int)
def Aqc (a:List Int):Bool:=Nat.beq 64 a.length
def Aqr (b:Option Bool):Option Bool:=b.bind fun a=>some a
def ZI (a:Nat) (b c:Int):Int:=((BitVec.toNat ((BitVec.ofInt a b) ||| (BitVec.ofInt a c)):Nat):Int)
def ArT (a:Int):Bool:=(a.tmod 2) == 1
def Avk (a:F6):Int:=Ad (168 - a.ER)
def KAi (a:Nat) (b:Int):Int:=((BitVec.toNat ((BitVec.ofInt a b) &&& (BitVec.ofInt a 255)):Nat):Int)
def Awk (a:Int):Int:=Aq3 (BN a) H7
def Av4 (a b:Int):Int:=Int.fdiv a b
def SAu (a:DZ):Int:=KAi H7 (Ad (Ii H7 (Av4 (RAU a) (Awk (33:Int))) (Av4 (RAU a) (Awk (45:Int)))))
def JD (a:Bg):Int:=(Wi a).fCount
def Ar5 (a:Int) (b:Nat):Bool:=MZ a (b:Int)
def TAu:AA:=Awx ⟨#[48,49,50,51,52,53,54,55,56,57,97,98,99,100,101,102,103,104,105,106,107,108,109,110,111,112,113,114,115,116,117,118,119,120,121,122]⟩
def Tc (a:Bo):AA:=a.Dh
def VAU (a:F6×AA) (b:Int):Int:=NQ ((Avb a.2 (Aw6 (Arx b))).tdiv 16) (16*(Avb a.2 (Ad ((Arx b)+2))))
def ZJ (a:AA):AA:=a.extract 0 (AxJ ((BF a) - 16))
def Fz (a:Ap):Int:=a.CW
def WAU (a:AA) (b:Int):Int:=NQ ((Avb a (Aw6 (Arx b))).tdiv 16) (16*(Avb a (Ad ((Arx b)+2))))
def Awc (a:AA):Bool:=(BF a) == 32
def XAU (a:Af):Option Bool:=Aws ((Jb a) == 3) (rP a) (some (Awc (Aqz a)))
def XF (a:Ef):BQ:=⟨a.fName,IK,BF (Awx IK)⟩
def VX (a b:Int):Int:=Av4 a (Aq3 (BN b) Jd)
def ArI (a:Ap):List CS:=a.BD
def L8 (a:Ap):Nat:=(ArI a).length
def LAi (a:Int):Int:=Ad ((BitVec.toNat ((BitVec.ofInt H7 (Ad a)) ^^^ (BitVec.ofInt H7 113)):Nat):Int)
def UAu (a:DW×DZ×Bg):DW:=⟨⟨a.1.BA.Au,AxD a.1.BA,a.1.BA.Ag,a.1.BA.Aj,⟨#[108,111,110,103]⟩,a.1.BA.CY,a.1.BA.CX⟩,a.1.Nr,a.1.Lc,a.1.JY⟩
def YAU (b:AA) (a:Int):Int:=Ad (Av4 (bt b (Qh a)) (Aq3 (AxJ (4*(a.tmod 2))) Ar3))
def WZ (a:List CS) (b:Int):List CS:=(a.drop 0).take ((BN b) - 0)
def ZK:List Int:=List.replicate 25 Qa
def Aqb (a:Nat) (b c:Int):Int:=w32 (Ii a b c)
def fJ (a b:Int):Int:=Aqb Jd (w32 a) (w32 b)
def Aqi (a:List BQ) (b:Int):Int:=(Ib a b).J3
def NK (a:List CS) (b:Int):CS:=a.getD (BN b) FAi
def ArA (a:Bool) (b c:Bo×Bool):Option (Bo×Bool):=cond (!a) (some b) (some c)
def NU (a:Ef):Bool:=a.Aj == 1
def NV (a:Ef):Bool:=a.Aj == 2
def NW (a:Ef):Bool:=a.Aj == 4
def NM (a:Ap):Int:=(Ar8 a).DU
def eY (a:List D8) (b:Int):D8:=a.getD (BN b) (⟨0,0,0⟩:D8)
def Arz (a:AA) (b:Int):AA:=a.extract 0 (BN b)
def AxC (a:Int×Int×Bool):Int:=(Ad (a.2.1+4))+a.1
def EF (a:Int):Bool:=a == 0
def Aqp (a b:Int):Int:=a+(Ad (5*b))
def fK:AA:=⟨#[102,117,108,108]⟩
def MC (a:Bg):Int:=(Wi a).DU
def Aqw (a:Int):Bool:=decide (a<256)
def VAu (a:List Int):List Int:=a.set (AxJ ((NZ a) - 1)) (w8 ((BitVec.toNat ((BitVec.ofInt Ar3 (Ud a ((NZ a) - 1))) ^^^ (BitVec.ofInt Ar3 128)):Nat):Int))
def Awm (a:Int):Int:=Ad (a - 1)
def Si (a:Int):Int:=a.tmod 5
def XG (a:List (List Int)):Bool:=Ej ((a.length+1)*24)
def AqY (a:Af):Bool:=a.CY
def Aq6 (a:AA):List Int:=bytesOf a
def rV (a:List Int) (b:AA):Bool:=Ej ((a.length+(Aq6 b).length)*1)
def XH (a:Ef):Bool:=AwC (Awx IK) a.fText
def AxI:Option Int:=some (-Awl)
def Arl (a:Bg):AA:=a.AX.BO
def rW:AA:=Awx ⟨#[111,117,116]⟩
def eP (a:List CS) (b:Nat) (c:Int):List CS:=(a.drop b).take (a.length - (BN c))
def AxM (a:List Ah):Int:=(a.length:Int)
def MF (a:Bg):Int:=(Wi a).BM
def WAu:List Int:=[1779033703,3144134277,1013904242,2773480762,1359893119,2600822924,528734635,1541459225]
def XI:List Int:=Qp (256:Int)
def Aw9:Int:=(4:Int)
def Jt (a:Int) (b:BU):Bool:=AwT a (AxK b)
def Em (a:Af):Bool:=a.CX
def L9 (a:Bg):AA:=(Wi a).Bv
def ZAU (a:AA):AA:=a.extract (AxJ ((BF a) - 32)) a.size
def AAk (a:AA):Bool:=(AwQ Qa Awl) && (decide (1<=(BF a)))
def Oq (a:Bo) (b:AA×Bool):Bool:=AwC (Tc a) b.1
def BAV:AA:=⟨#[119,114,111,110,103]⟩
def Ht (a:Bool) (b:Option Ap):Option Ap:=cond a b none
def XJ (c:Ef) (a:BU) (b:Int):BQ:=⟨c.I8,Uj a b,Jc a b⟩
def Qi (a:List Ef):Int:=(a.length:Int)
def MH (a:Bg):Int:=Fz a.AX
def Arv (a:Bool) (b:Option (List Int)):Option (List Int):=cond a b none
def fM:AA:=Awx ⟨#[109]⟩
def CAV (a:Int):Bool:=(AwQ Qa (2:Int)) && (decide (2<a))
def Js (a:Bg):Bool:=a.AX.CZ
def OJ (a:Int) (b:List AA):Bool:=AwT a b.length
def Qm (a:Ap):Int:=(Ar8 a).fCount
def XAu (i:CG) (b:AA) (f:VK) (g:AA) (h:RZ):Option AA:=(i (Ad (64 - (BF b)))).bind fun a=>AwZ (AwC b a) ((f (b++a) 92).bind fun c=>(f (b++a) 54).bind fun d=>AwZ (AwC d g) ((h (d++g)).bind fun e=>AwZ (AwC c e) (Awi (h (c++e)))))
def DAV (a:List Int):Bool:=(AwQ Qa Aw9) && (decide (4<(NZ a)))
def EAV (a:List AA):Option AA:=AwZ (VI Qa (Qd a)) (some (Ig a Qa IK))
def ArC (a b c:AA):Bool:=AwC (a++b) c
def MG (a:Bg):AA:=Tc (Wi a)
def YAu (a:AA) (b:Int):List Ef:=[(⟨4,Tt,IK,IK⟩:Ef)]++[(⟨1,Tt,Arz a b,IK⟩:Ef),(⟨2,Tt,IK,IK⟩:Ef),(⟨3,Tt,IK,Qw⟩:Ef)]
def TR (a:Int):Bool:=decide (a<2)
def fO:AA:=Awx ⟨#[32]⟩
def eH (a:List Ah):Bool:=Ej ((a.length+1)*80)
def MAi (a:Int):Int:=w32 ((w32 ((2147483648:Int).tdiv a))*2)
def Rn:Option AA:=some IK
def La (a:Int) (b:AA):Int:=AqZ a (BF b)
def VY (a:Int):Bool:=a == a
def AwL (a b:Int):Bool:=decide (a>=b)
def Ld (a:List Int):Option (List Int):=some a
def XK (a:Ef):BQ:=⟨a.I8,IK,0⟩
def FAV (a:AA):Bool:=GL (Ad ((BF a) - 16)) (BF a)
def Ol (a:Int):Nat:=BN (Aw6 a)
def Av8 (a:List Int):Bool:=VI Qa (NZ a)
def Aww (a:Bo):Int:=(Oi a:Int)
def fP:IL:=⟨0,[],[]⟩
def fQ (a:Ah):Bool:=EU (Aqz (ArS a)) IK
def NAi:List AA:=[⟨#[97]⟩,⟨#[98]⟩,⟨#[99]⟩]
def fU (a:Int):Int:=Ad (a.tdiv 16)
def Ny (a b:Int):Bool:=decide (a > b)
def Pq (a:Int):Int:=a.tdiv 8
def rX:AA:=Awx ⟨#[108]⟩
def ZL (a:Int):Int:=Ad (a.tdiv 4)
def fV (a b:Int):Int:=Si (NQ (2*a) (3*b))
def ZAu (a:AA):Bool:=((AwQ Qa (768:Int)) && (AwQ (768:Int) (1568:Int))) && (decide (1568<=(BF a)))
def Nz (a:Bg):List BQ:=Avq a.AX
def N9 (a:Bg):List CS:=ArI a.AX
def GAV (a:Int):Bool:=(AwQ Qa Awl) && (decide (1<a))
def ArK (a:Bool) (b:Option (BU×Bool)):Option (BU×Bool):=cond a b none
def N7 (a:Bg):List Af:=DC (Wi a)
def ZM (a:Int):Bool:=decide (a<3329)
def ARf (a b:Int):Int:=Ad ((AqZ (AqZ (Aw3 (a.tmod 2) (b.tmod 2)) ((ZL a).tmod 2)) ((Ad (Pq a)).tmod 2))+3329)
def Qs (a:Bg):List EG:=Md a.AX
def Wx (a:Af×Bool) (b:List Af) (c:Int) (d:Af):Bool:=MZ a.1.fNext (Eb b c d).fNext
abbrev mk {R:Type} (c:R) {x:R} (_h:x=c:=by (first|delta Avx ZBD IK AwC Ii Ej EU Ib DY Jd Aw6 BF GL Arn NZ H7 Ia Nw Ad Eb OAu Awo Awx Aqt IZ Mc Ic MZ Qa Ot NP AwT AwP Kq Arx Wi ZE PAu AxJ VW VI Ig GR Aq3 Awe Ar3 Md Aw1 Avz NQ Awi Oi Uj DC Tt AxK Pz Aqs Qp AwQ QAu Qd QAU rP Aqh W9 ArD Arb AsI JG Qh XA BN FAi AwZ RAU VG Pn HAi Qn Qw fF He Avb SAU RAu JF Eo NR fH Awg XB NS rQ XC Aqq ArS Avq Ud TAU Ard XD UAU AxA Awl ArO Avo rU Arf LZ NT Rl XE AqZ Avd ZH Sl IAi JAi Aqc Aqr ZI Jc ArT Avk SAu Rk JD Ar5 TAu Tc VAU ZJ Fz WAU XAU XF VX L8 LAi UAu YAU WZ ZK Avw fJ Aqi NK Aw2 ArA NU NV NW NM eY Arz AxC EF Aqp fK MC Aqw VAu Awm Si ZF XG AqY Av5 rV Qb XH Aqz AxI Arl rW eP AsL Ar8 AxM MF WAu XI Aw9 ArI KAi Jt Em L9 ZAU Awk AxD AAk Oq BAV Ht Wy XJ Qi MH Arv fM CAV Js OJ Qm XAu Aws DAV Aq6 EAV Ari ArC MG YAu TR fO eH MAi Aqb Rn Aqu La LU Av4 VY AwL Aw3 Ld FK fG XK FAV Ol Av8 Aww fP fQ NAi fU Ny Pq rX ZL fV ZAu Nz N9 GAV Jb ArK N7 Awc ZM ARf Qs Wx ZG|skip);exact rfl):R:=x
def AYw:DAU:=fun a=>mk (some (decide ((NZ KI) > 1048576)))
def BAv:DAU:=AYw
def NBT:AwF:=BI u1 BAv wY E8 [] Tryz.func6 AYw
inductive HAV where
 |c0 (a b:Int)
def OBT:HAV->AsN
 |.c0 a b=>(tdo Tryz.f27 464,[(0,[.one (.J4)]),vi 3 a,vi 4 b],[])
def CAv (k:Aw7 HAV DZ):PAt:=fun a=>mk (k (.c0 (Ad (27401+(NZ KI))) 0))
def OAi (k:Aw7 HAV DZ):Aw7 HAV DZ
 |.c0 b a=>mk (cond (MZ a (NZ KI)) (cond (a<4000) (cond (AsI a KI) (cond (Nat.blt (BN a) KI.length) (k (.c0 (Ad ((BitVec.toNat ((BitVec.ofInt H7 (Ad ((NQ (b*131) (Arn KI a))+7))) &&& (BitVec.ofInt H7 1073741823)):Nat):Int)) (Aw6 a))) none) none) (some ⟨(),0,b⟩)) (some ⟨(),0,b⟩))
def oV:AzH HAV DZ
 |0,_=>none
 |m+1,s=>OAi (oV m) s
def PAi:PAt:=CAv (oV AY)
def PBT:AwF:=fy u1 PAi wY cv2 [] Tryz.func27 OBT OAi CAv oV
def DAv:EAU:=fun a=>mk (cond (MZ a.fI (NZ KI)) (cond (Avx a.fI (NZ KI)) (cond (Nat.blt (BN a.fI) KI.length) (some (Ad (KAi H7 (NQ (SAu a) (Arn KI a.fI))),⟨(),Aw6 a.fI,RAU a⟩)) none) none) (some (Ad (SAu a),⟨(),a.fI,RAU a⟩)))
def oZ:EAU:=DAv
def BBE:AwF:=BI u1 oZ cv3 cv4 [] Tryz.func103 DAv [0]
def EAv (b:EAU):AwJ:=fun c a=>mk (cond (a<=0) (some (0,Ia c)) (cond (a<=256) ((b (Ia c)).bind fun d=>cond (!(EF a)) (some (d.1.tmod a,Ia d.2)) none) ((b (Ia c)).bind fun e=>(b (Ia e.2)).bind fun f=>(b (Ia f.2)).bind fun g=>(b (Ia g.2)).bind fun h=>cond (!(EF a)) (some ((Aw3 (NQ ((Ad (e.1*16777216))+(Ad (f.1*65536))) (g.1*256)) h.1).tmod a,Ia h.2)) none)))
def AsP:AwJ:=EAv oZ
def fZ:AwF:=BI u2 AsP cv5 cv4 [BBE] Tryz.func58 EAv [0]
inductive IAV where
 |c0 (a b d:Int) (e:(List Int))
def QBT:IAV->AsN
 |.c0 a b d e=>(tdo Tryz.f57 464,[vi 0 a,(1,[.one (.int .u8 b)]),vo 5 368,vi 6 d],[(368,.sl 5 e)])
def FAv (k:Aw7 IAV AA):Yv:=fun a b=>mk (cond ((HAi a) && (Ej ((BN a)*1))) (k (.c0 a b 0 (Qp a))) none)
def QAi (k:Aw7 IAV AA):Aw7 IAV AA
 |.c0 c d a b=>mk (cond (MZ a c) (cond (AsI a b) (k (.c0 c d (Aw6 a) (b.set (BN a) d))) none) (ArO b))
def og:AzH IAV AA
 |0,_=>none
 |m+1,s=>QAi (og m) s
def dH:Yv:=FAv (og AY)
def CBE:AwF:=fy u2 dH cv6 Cc [] Tryz.func57 QBT QAi FAv og
def DBE:AsG:=mk (Ld WAu)
def EBE:AsG:=DBE
def RBT:AwF:=BI u0 EBE Yc cv9 [] Tryz.func181 DBE
inductive JAV where
 |c0 (a:(List Int)) (b:Int) (d:(List Int))
def SBT:JAV->AsN
 |.c0 a b d=>(tdo Tryz.f180 464,[vr 0 108 a,vo 3 240,vi 4 b],[(240,.sl 5 d)])
def FBE (k:Aw7 JAV AA):Ie:=fun a=>k (.c0 a 0 [])
def RAi (k:Aw7 JAV AA):Aw7 JAV AA
 |.c0 b a c=>mk (cond (MZ a (NZ b)) (cond (AsI a b) (cond (Ej ((c.length+4)*1)) (k (.c0 b (Aw6 a) (c++[w8 (w32 ((Arn b a).tdiv 16777216)),w8 ((w32 ((Arn b a).tdiv 65536)).tmod 256),w8 ((w32 ((Arn b a).tdiv 256)).tmod 256),w8 ((Arn b a).tmod 256)]))) none) none) (ArO c))
def oq:AzH JAV AA
 |0,_=>none
 |m+1,s=>RAi (oq m) s
def dL:Ie:=FBE (oq AY)
def GAv:AwF:=fy u1 dL AfP Cc [] Tryz.func180 SBT RAi FBE oq
def GBE (c:AsG) (d:Ie):QAt:=mk (c.bind fun a=>(d a).bind fun b=>some ⟨b,IK,0⟩)
def HAv:QAt:=GBE EBE dL
def TBT:AwF:=BI u0 HAv Yc AEj [RBT,GAv] Tryz.func126 GBE
def HBE:AwU:=fun a b c=>mk (Aws (AwL a b) (some (AwQ a c)) (some false))
def Je:AwU:=HBE
def JV:AwF:=BI u3 Je AVC E8 [] Tryz.func80 HBE
def IAv (b:AwU):qY:=fun a=>mk (Aws (Awc a.F7) (Aws ((BF a.Np)<64) (Aqs (b a.fCount 0 1000000000) (some ((a.fCount.tmod 64) == (BF a.Np))) (some false)) (some false)) (some false))
def WQ:qY:=IAv Je
def IBE:AwF:=BI u1 WQ AEj E8 [JV] Tryz.func176 IAv
def JAv:IAh:=fun b a=>mk (cond (Avx a (BF b)) (cond (Avx (Aw6 a) (BF b)) (cond (Avx (Ad (a+2)) (BF b)) (cond (Avx (Ad (a+3)) (BF b)) (some (w32 ((w32 ((w32 ((w32 ((w32 (bt b a))*16777216))+(w32 ((w32 (bt b (Aw6 a)))*65536))))+(w32 ((w32 (bt b (Ad (a+2))))*256))))+(w32 (bt b (Ad (a+3))))))) none) none) none) none)
def zN:IAh:=JAv
def UBT:AwF:=BI u2 zN Q9 UG [] Tryz.func238 JAv
inductive LAV where
 |c0 (a:AA) (b:Int) (d:(List Int))
def VBT:LAV->AsN
 |.c0 a b d=>(tdo Tryz.f177 464,[vs 0 a,vo 3 240,vi 4 b],[(240,.sl 108 d)])
def JBE (b:IAh) (k:Aw7 LAV (List Int)):H6:=fun a=>k (.c0 a 0 [])
def SAi (a:IAh) (k:Aw7 LAV (List Int)):Aw7 LAV (List Int)
 |.c0 c b d=>mk (cond (AwQ (Ad (b+4)) (BF c)) ((a c b).bind fun e=>cond (Ej ((d.length+1)*4)) (k (.c0 c (Ad (b+4)) (d++[e]))) none) (Ld d))
def ou:AzH LAV (List Int)
 |0,_=>none
 |m+1,s=>SAi zN (ou m) s
def WR:H6:=JBE zN (ou AY)
def KAv:AwF:=fy u1 WR Cc cv9 [UBT] Tryz.func177 VBT SAi JBE ou
def KBE:AsG:=mk (Ld [1116352408,1899447441,3049323471,3921009573,961987163,1508970993,2453635748,2870763221,3624381080,310598401,607225278,1426881987,1925078388,2162078206,2614888103,3248222580,3835390401,4022224774,264347078,604807628,770255983,1249150122,1555081692,1996064986,2554220882,2821834349,2952996808,3210313671,3336571891,3584528711,113926993,338241895,666307205,773529912,1294757372,1396182291,1695183700,1986661051,2177026350,2456956037,2730485921,2820302411,3259730800,3345764771,3516065817,3600352804,4094571909,275423344,430227734,506948616,659060556,883997877,958139571,1322822218,1537002063,1747873779,1955562222,2024104815,2227730452,2361852424,2428436474,2756734187,3204031479,3329325298])
def o7:AsG:=KBE
def LBE:AwF:=BI u0 o7 Yc cv9 [] Tryz.func178 KBE
def LAv:RAt:=fun b a c=>mk (cond (!(EF a)) (cond (!(EF a)) (some (w32 ((w32 (b.tdiv a))+(w32 ((b.tmod a)*c))))) none) none)
def TAi:RAt:=LAv
def WBT:AwF:=BI u3 TAi AfQ UG [] Tryz.func274 LAv
def oz (e:RAt):JAh:=fun b c f a i=>mk (cond (!(EF c)) ((e b c (MAi c)).bind fun d=>cond (!(EF f)) ((e b f (MAi f)).bind fun g=>cond (!(EF a)) (cond (!i) (cond (!(EF a)) ((e b a (MAi a)).bind fun h=>some (Aqb Jd (Aqb Jd d g) h)) none) (some (fJ (Ii Jd d g) (b.tdiv a)))) none) none) none)
def Avr:JAh:=oz TAi
def XBT:AwF:=BI u5 Avr AfR UG [WBT] Tryz.func239 oz
inductive MAV where
 |c0 (a b:(List Int)) (g:Int) (d:(List Int))
 |c1 (a b:(List Int)) (f:Int) (d e:(List Int))
 |c2 (a b:(List Int)) (f h:Int) (i j:Int) (d e:(List Int))
 |c3 (a:(List Int)) (l:Int) (e n:(List Int))
def YBT:MAV->AsN
 |.c0 a b g d=>(tdo Tryz.f179 464,[vr 0 108 a,vr 1 108 b,vo 7 496,vi 8 g],[(496,.sl 108 d)])
 |.c1 a b f d e=>(tdo Tryz.f179 2000,[vr 0 108 a,vr 1 108 b,vo 7 496,vo 9 624,vi 10 f],[(496,.sl 108 d),(624,.sl 108 e)])
 |.c2 a b f h i j d e=>(tdo Tryz.f179 8202192,[vr 0 108 a,vr 1 108 b,vo 7 496,vo 9 624,vi 10 f,(13,[.one (.int .u32 h)]),(15,[.one (.int .u32 i)]),vi 16 j],[(496,.sl 108 d),(624,.sl 108 e)])
 |.c3 a l e n=>(tdo Tryz.f179 8144,[vr 0 108 a,vo 9 624,vo 17 1136,vi 18 l],[(624,.sl 108 e),(1136,.sl 108 n)])
def MAv (b:H6) (f:JAh) (k:Aw7 MAV (List Int)):qZ:=fun d e c=>(b c).bind fun a=>k (.c0 d e 16 a)
def dM (a:H6) (b:JAh) (k:Aw7 MAV (List Int)):Aw7 MAV (List Int)
 |.c0 e h d c=>mk (cond (d<64) (cond (Awe (d - 2) c) ((b (Ud c (d - 2)) 131072 524288 1024 true).bind fun f=>cond (Awe (d - 7) c) (cond (Awe (d - 15) c) ((b (Ud c (d - 15)) 128 262144 8 true).bind fun g=>cond (Awe (d - 16) c) (cond (Ej ((c.length+1)*4)) (k (.c0 e h (Aw6 d) (c++[w32 ((w32 ((w32 (f+(Ud c (d - 7))))+g))+(Ud c (d - 16)))]))) none) none) none) none) none) (cond (Ej ((0+e.length)*4)) (k (.c1 e h 0 c e)) none))
 |.c1 i e d f c=>mk (cond (d<64) (cond (DAV c) (cond ((AwQ Qa (5:Int)) && (decide (5<(NZ c)))) (cond ((AwQ Qa (6:Int)) && (decide (6<(NZ c)))) (cond ((AwQ Qa (7:Int)) && (decide (7<(NZ c)))) ((b (Arn c Aw9) 64 2048 33554432 false).bind fun g=>cond (AsI d e) (cond (AsI d f) (cond (Av8 c) (cond (GAV (NZ c)) (cond (Av8 c) (cond (CAV (NZ c)) (cond (GAV (NZ c)) (cond (CAV (NZ c)) (cond (Av8 c) ((b (Arn c Qa) 4 8192 4194304 false).bind fun h=>k (.c2 i e d (w32 ((w32 ((w32 ((w32 ((Arn c (7:Int))+g))+(fJ (Ot Jd (Arn c Aw9) (Arn c (5:Int))) (Ot Jd (w32 (4294967295 - (Arn c Aw9))) (Arn c (6:Int))))))+(Arn e d)))+(Arn f d))) (w32 (h+(fJ (Ii Jd (w32 (Ot Jd (Arn c Qa) (Arn c Awl))) (w32 (Ot Jd (Arn c Qa) (Arn c (2:Int))))) (Ot Jd (Arn c Awl) (Arn c (2:Int)))))) 7 f c)) none) none) none) none) none) none) none) none) none) none) none) none) none) (k (.c3 i 0 c [])))
 |.c2 f g h e i d j c=>mk (cond (Arf d) (cond (Awe (d - 1) c) (cond (AsI d c) (k (.c2 f g h e i (Awm d) j (c.set (BN d) (Ud c (d - 1))))) none) none) (cond (DAV c) (cond (DAV c) (cond (Av8 (c.set (BN Aw9) (w32 ((Arn c Aw9)+e)))) (k (.c1 f g (Aw6 h) j ((c.set (BN Aw9) (w32 ((Arn c Aw9)+e))).set (BN Qa) (w32 (e+i))))) none) none) none))
 |.c3 d c e f=>mk (cond (c<8) (cond (AsI c d) (cond (AsI c e) (cond (Ej ((f.length+1)*4)) (k (.c3 d (Aw6 c) e (f++[w32 ((Arn d c)+(Arn e c))]))) none) none) none) (Ld f))
def Pm:AzH MAV (List Int)
 |0,_=>none
 |m+1,s=>dM WR Avr (Pm m) s
def dN:qZ:=MAv WR Avr (Pm AY)
def MBE:AwF:=fy u3 dN AfS cv9 [KAv,XBT] Tryz.func179 YBT dM MAv Pm
inductive NAV where
 |c0 (a b:AA) (d:Int) (e f:IW) (g h:(List Int))
def ZBT:NAV->AsN
 |.c0 d e f a b g h=>(tdo Tryz.f125 4064,[vs 1 d,vp 2 128,vp 4 256,vo 5 368,vo 6 432,vs 7 e,vi 8 f],[(128,.var [.str a.F7,.str a.Np,li a.fCount]),(256,.var [.str b.F7,.str b.Np,li b.fCount]),(368,.sl 108 g),(432,.sl 108 h)])
def NAv (f:qY) (g:H6) (h:AsG) (i:qZ) (j:Ie) (k:Aw7 NAV IW):SAt:=fun a b=>mk ((f a).bind fun c=>cond (!c) (some a) (cond ((Aw3 a.fCount (BF b)) > 1000000000) (some a) ((g a.F7).bind fun d=>h.bind fun e=>cond (AwC a.Np b) (k (.c0 b (a.Np++b) 0 a ⟨IK,IK,0⟩ d e)) none)))
def UAi (a:qY) (b:H6) (c:AsG) (d:qZ) (e:Ie) (k:Aw7 NAV IW):Aw7 NAV IW
 |.c0 l g f m o i j=>mk (cond (AwQ (Ad (f+64)) (BF g)) (cond (Kq f (Ad (f+64)) (BF g)) ((d i j (ArD g f (f+64))).bind fun h=>k (.c0 l g (Ad (f+64)) m o h j)) none) ((e i).bind fun n=>cond (GL f (BF g)) (some ⟨n,Aqq g f,Aw3 m.fCount (BF l)⟩) none))
def o8:AzH NAV IW
 |0,_=>none
 |m+1,s=>UAi WQ WR o7 dN dL (o8 m) s
def VAi:SAt:=NAv WQ WR o7 dN dL (o8 AY)
def AlQ:AwF:=fy u2 VAi AfT AEj [IBE,KAv,LBE,MBE,GAv] Tryz.func125 ZBT UAi NAv o8
inductive OAV where
 |c0 (b:IW) (a:(List Int))
 |c1 (d e:Int) (b:IW) (a:(List Int))
 |c2 (d e:Int) (f g:Int) (b:IW) (a:(List Int))
 |c3 (h:Int) (a i j:(List Int))
def BBU:OAV->AsN
 |.c0 a b=>(tdo Tryz.f124 992,[vp 1 64,vo 3 240],[(64,.var [.str a.F7,.str a.Np,li a.fCount]),(240,.sl 5 b)])
 |.c1 d e a b=>(tdo Tryz.f124 8144,[vp 1 64,vo 3 240,vi 4 d,vi 5 e],[(64,.var [.str a.F7,.str a.Np,li a.fCount]),(240,.sl 5 b)])
 |.c2 d e f g a b=>(tdo Tryz.f124 2085456,[vp 1 64,vo 3 240,vi 4 d,vi 5 e,vi 6 f,vi 7 g],[(64,.var [.str a.F7,.str a.Np,li a.fCount]),(240,.sl 5 b)])
 |.c3 h b i j=>(tdo Tryz.f124 65488,[vo 3 240,vo 8 560,vo 9 624,vi 10 h],[(240,.sl 5 b),(560,.sl 108 i),(624,.sl 108 j)])
def OAv (c:qY) (d:H6) (e:AsG) (f:qZ) (g:Ie) (k:Aw7 OAV AA):TAt:=fun a=>mk ((c a).bind fun b=>cond (!b) Rn (cond (Pz a.Np) (cond (NS (Aq6 a.Np)) (k (.c0 a ((Aq6 a.Np)++[(128:Int)]))) none) none))
def U2 (a:qY) (b:H6) (c:AsG) (d:qZ) (e:Ie) (k:Aw7 OAV AA):Aw7 OAV AA
 |.c0 g f=>mk (cond (((NZ f).tmod 64) != 56) (cond (NS f) (k (.c0 g (f++[Qa]))) none) (k (.c1 (Ad (8*g.fCount)) 7 g f)))
 |.c1 g f h i=>mk (cond (JF f) (k (.c2 g f g 0 h i)) ((b h.F7).bind fun j=>c.bind fun l=>k (.c3 0 i j l)))
 |.c2 i f j h l g=>mk (cond (MZ h f) (k (.c2 i f (Ad (j.tdiv 256)) (Aw6 h) l g)) (cond (NS g) (k (.c1 i (Awm f) l (g++[w8 (j.tmod 256)]))) none))
 |.c3 f g i j=>mk (cond (MZ f (NZ g)) (cond (Kq f (Ad (f+64)) (NZ g)) ((d i j (ofBytes ((g.drop (BN f)).take ((AxJ (f+64)) - (BN f))))).bind fun h=>k (.c3 (Ad (f+64)) g h j)) none) (Awi (e i)))
def Lu:AzH OAV AA
 |0,_=>none
 |m+1,s=>U2 WQ WR o7 dN dL (Lu m) s
def WAi:TAt:=OAv WQ WR o7 dN dL (Lu AY)
def CBU:AwF:=fy u1 WAi AEj Cc [IBE,KAv,LBE,MBE,GAv] Tryz.func124 BBU U2 OAv Lu
def PAv (c:QAt) (d:SAt) (f:TAt):RZ:=fun e=>mk (c.bind fun a=>(d a e).bind fun b=>Awi (f b))
def JC:RZ:=PAv HAv VAi WAi
def P5:AwF:=BI u1 JC Cc Cc [TBT,AlQ,CBU] Tryz.func73 PAv
def QAv (c:RZ) (d:Yv):Arr:=mk ((c IK).bind fun a=>(d 32 0).bind fun b=>some ⟨a,0,[],0,b,0⟩)
def RI:Arr:=QAv JC dH
def eX:AwF:=BI u0 RI Yc AEk [P5,CBE] Tryz.func50 QAv
inductive PAV where
 |c0 (a:Int) (b:(List Int))
def DBU:PAV->AsN
 |.c0 a b=>(tdo Tryz.f148 224,[vi 0 a,vo 3 240],[(240,.sl 5 b)])
def NBE (k:Aw7 PAV AA):CG:=fun a=>k (.c0 a [])
def XAi (k:Aw7 PAV AA):Aw7 PAV AA
 |.c0 a b=>mk (cond (a > 127) (cond (NS b) (k (.c0 (Ad (a.tdiv 128)) (b++[w8 (Ad ((a.tmod 128)+128))]))) none) (AwZ (NS b) (ArO (b++[w8 a]))))
def o9:AzH PAV AA
 |0,_=>none
 |m+1,s=>XAi (o9 m) s
def Qg:CG:=NBE (o9 AY)
def ZN:AwF:=fy u1 Qg FN Cc [] Tryz.func148 DBU XAi NBE o9
def RAv (b:AwU):OD:=fun a=>mk ((b a.fId 1 1000).bind fun c=>Aws (!c) (some false) ((b (Jb a) 1 3).bind fun d=>Aws (!d) (some false) ((b a.fNext 0 16).bind fun e=>Aws (!e) (some false) (Aws ((Jb a) != 2) (Aws (a.fNext != 0) (some false) (Aws (FK a) (some false) (Aws ((Jb a) != 1) (Aws (Ari a) (some false) (XAU a)) (XAU a)))) (Aws ((Jb a) != 1) (Aws (Ari a) (some false) (XAU a)) (XAU a))))))
def WS:OD:=RAv Je
def QAV:AwF:=BI u1 WS S9 E8 [JV] Tryz.func135 RAv
def OBE:UAt:=fun a b=>cond a (some b) (some 0)
def SAv:UAt:=OBE
def EBU:AwF:=BI u2 SAv AfU FN [] Tryz.func214 OBE
def TAv:CG:=fun a=>mk (cond (Avd (a.tmod 256)) (ArO [w8 (Ad ((a.tmod 256)+256))]) (ArO [w8 (a.tmod 256)]))
def J9:CG:=TAv
def XL:AwF:=BI u1 J9 FN Cc [] Tryz.func215 TAv
def UAv (c:CG):RZ:=fun b=>mk ((c (BF b)).bind fun a=>AwZ (AwC a b) (some (a++b)))
def YAi:RZ:=UAv Qg
def FBU:AwF:=BI u1 YAi Cc Cc [ZN] Tryz.func216 UAv
def VAv (p:OD) (e:UAt) (n o:CG) (q:RZ):Awt:=fun a=>mk ((p a).bind fun h=>cond (!h) (LZ (IK,false)) ((e (AqY a) 1).bind fun i=>(e (Em a) 2).bind fun j=>(e (FK a) 4).bind fun l=>(e (Ari a) 8).bind fun m=>(n a.fId).bind fun b=>(o (Jb a)).bind fun c=>Eo (AwC b c) ((o (Aw3 (Aw3 (Aw3 i j) l) m)).bind fun d=>Eo (ArC b c d) ((q (Aqz a)).bind fun f=>Eo (ArC (b++c) d f) ((n a.fNext).bind fun g=>Eo (ArC ((b++c)++d) f g) (LZ ((((b++c)++d)++f)++g,true)))))))
def Yg:Awt:=VAv WS SAv Qg J9 YAi
def ZAi:AwF:=BI u1 Yg S9 IQ [QAV,EBU,ZN,XL,FBU] Tryz.func149 VAv
def WAv (f:AwU) (g:CG) (i:Awt):Aq9:=fun a=>mk (cond (a.Aj == 1) (cond (Awc a.fText) (cond (EF a.DR) (cond ((EF (ArS a).fId) && ((EF (Jb (ArS a))) && (((AqY (ArS a)) == false) && (((Em (ArS a)) == false) && (((FK (ArS a)) == false) && (((Ari (ArS a)) == false) && ((fQ a) && ((EF (ArS a).fNext) && true)))))))) (Eo (AwC (Awx ⟨#[1]⟩) a.fText) (LZ ((Awx ⟨#[1]⟩)++a.fText,true))) (LZ (IK,false))) (LZ (IK,false))) (LZ (IK,false))) (cond (a.Aj == 2) (cond (EU a.fText IK) (cond ((EF (ArS a).fId) && ((EF (Jb (ArS a))) && (((AqY (ArS a)) == false) && (((Em (ArS a)) == false) && (((FK (ArS a)) == false) && (((Ari (ArS a)) == false) && ((fQ a) && ((EF (ArS a).fNext) && true)))))))) ((f a.DR 0 3).bind fun e=>cond e ((g a.DR).bind fun c=>Eo (AwC (Awx ⟨#[2]⟩) c) (LZ ((Awx ⟨#[2]⟩)++c,true))) (LZ (IK,false))) (LZ (IK,false))) (LZ (IK,false))) (cond (a.Aj == 3) ((i (ArS a)).bind fun b=>cond b.2 (cond (EU a.fText IK) (cond (EF a.DR) (Eo (AwC (Awx ⟨#[3]⟩) b.1) (LZ ((Awx ⟨#[3]⟩)++b.1,true))) (LZ (IK,false))) (LZ (IK,false))) (LZ (IK,false))) (cond (a.Aj == 4) (cond (EU a.fText IK) (cond ((EF (ArS a).fId) && ((EF (Jb (ArS a))) && (((AqY (ArS a)) == false) && (((Em (ArS a)) == false) && (((FK (ArS a)) == false) && (((Ari (ArS a)) == false) && ((fQ a) && ((EF (ArS a).fNext) && true)))))))) ((f a.DR 1 1000).bind fun h=>cond h ((g a.DR).bind fun d=>Eo (AwC (Awx ⟨#[4]⟩) d) (LZ ((Awx ⟨#[4]⟩)++d,true))) (LZ (IK,false))) (LZ (IK,false))) (LZ (IK,false))) (LZ (IK,false))))))
def dR:Aq9:=WAv Je Qg Yg
def XAv:AwF:=BI u1 dR AVD IQ [JV,ZN,ZAi] Tryz.func100 WAv
inductive RAV where
 |c0 (a:Int) (b:Bo)
def GBU:RAV->AsN
 |.c0 b a=>(tdo Tryz.f86 464,[vp 1 64,vi 3 b],[(64,.var [.str a.Bv,li a.DU,.BG 76 a.AZ,li a.BM,.str a.Dh,li a.fCount])])
def YAv (b:AwU) (f:OD) (k:Aw7 RAV Bool):AsK:=fun a=>mk (cond ((BF a.Bv) != 32) (some false) (cond ((BF (Tc a)) != 32) (some false) ((b a.DU 0 3).bind fun c=>cond (!c) (some false) (cond ((Aww a) > 8) (some false) ((b a.BM 0 1000).bind fun d=>cond (!d) (some false) ((b a.fCount 0 10000).bind fun e=>cond (!e) (some false) (k (.c0 0 a))))))))
def AHC (a:AwU) (b:OD) (k:Aw7 RAV Bool):Aw7 RAV Bool
 |.c0 c d=>mk (cond (Ar5 c (Oi d)) (cond (AwT c (Oi d)) ((b (Eb (DC d) c ⟨0,0,false,false,false,false,IK,0⟩)).bind fun e=>cond (!e) (some false) (cond (AwT c (Oi d)) (cond (Ny (Eb (DC d) c ⟨0,0,false,false,false,false,IK,0⟩).fId d.BM) (some false) (cond (Arf c) (cond (Avx (Awm c) (Aww d)) (cond (AwT c (Oi d)) (cond (AwL (Eb (DC d) (Awm c) ⟨0,0,false,false,false,false,IK,0⟩).fId (Eb (DC d) c ⟨0,0,false,false,false,false,IK,0⟩).fId) (some false) (k (.c0 (Aw6 c) d))) none) none) (k (.c0 (Aw6 c) d)))) none)) none) (some true))
def Yh:AzH RAV Bool
 |0,_=>none
 |m+1,s=>AHC Je WS (Yh m) s
def dS:AsK:=YAv Je WS (Yh AY)
def PBE:AwF:=fy u1 dS AEl E8 [JV,QAV] Tryz.func86 GBU AHC YAv Yh
def ZAv:Ql:=fun a=>mk (cond (Ej ((0+(Oi a))*48)) (some ⟨a.Bv,a.DU,DC a,a.BM,Tc a,a.fCount⟩) none)
def Yi:Ql:=ZAv
def ARj:AwF:=BI u1 Yi AEl AEk [] Tryz.func79 ZAv
inductive SAV where
 |c0 (a b:Int) (d:Bo) (e:Af)
def HBU:SAV->AsN
 |.c0 d e b a=>(tdo Tryz.f56 208,[vi 1 d,vp 2 128,vp 4 256,vi 6 e],[(128,.var [.str b.Bv,li b.DU,.BG 76 b.AZ,li b.BM,.str b.Dh,li b.fCount]),(256,.var [li a.fId,li a.Aj,.bool a.CY,.bool a.CX,.bool a.Gw,.bool a.GH,.str a.fValue,li a.fNext])])
def QBE (k:Aw7 SAV (Af×Bool)):Aqk:=fun b a=>mk (k (.c0 a 0 b ⟨0,0,false,false,false,false,IK,0⟩))
def BAj (k:Aw7 SAV (Af×Bool)):Aw7 SAV (Af×Bool)
 |.c0 c a b d=>mk (cond (Ar5 a (Oi b)) (cond (AwT a (Oi b)) (cond ((Eb (DC b) a ⟨0,0,false,false,false,false,IK,0⟩).fId == c) (cond (AwT a (Oi b)) (some (Eb (DC b) a ⟨0,0,false,false,false,false,IK,0⟩,true)) none) (k (.c0 c (Aw6 a) b d))) none) (some (⟨0,0,false,false,false,false,IK,0⟩,false)))
def dU:AzH SAV (Af×Bool)
 |0,_=>none
 |m+1,s=>BAj (dU m) s
def RJ:Aqk:=QBE (dU AY)
def qX:AwF:=fy u2 RJ AKo Yb [] Tryz.func56 HBU BAj QBE dU
def BAw:eu:=fun a b=>mk (Aws ((Jb a) == (Jb b)) (Aws (EU (Aqz a) (Aqz b)) (Aws ((FK a) == (FK b)) (Aws ((Ari a) == (Ari b)) (Aws (AwQ a.fNext b.fNext) (Aws (AqY b) (Aws (Em b) (some true) (some (!(Em a)))) (Aws (!(AqY a)) (Aws (Em b) (some true) (some (!(Em a)))) (some false))) (some false)) (some false)) (some false)) (some false)) (some false))
def zQ:eu:=BAw
def IBU:AwF:=BI u2 zQ AVE E8 [] Tryz.func101 BAw
inductive UAV where
 |c0 (a:(List Af)) (e:Int) (b:Af) (d:(List Af))
 |c1 (a:(List Af)) (f:Int) (b:Af) (d:(List Af))
def JBU:UAV->AsN
 |.c0 b e a d=>(tdo Tryz.f102 464,[vr 0 76 b,vp 3 192,vo 5 368,vi 6 e],[(192,.var [li a.fId,li a.Aj,.bool a.CY,.bool a.CX,.bool a.Gw,.bool a.GH,.str a.fValue,li a.fNext]),(368,.sl 76 d)])
 |.c1 b f a d=>(tdo Tryz.f102 2000,[vr 0 76 b,vp 3 192,vo 5 368,vi 7 f],[(192,.var [li a.fId,li a.Aj,.bool a.CY,.bool a.CX,.bool a.Gw,.bool a.GH,.str a.fValue,li a.fNext]),(368,.sl 76 d)])
def CAw (k:Aw7 UAV (List Af)):KAh:=fun a b=>k (.c0 a 0 b [])
def pG (k:Aw7 UAV (List Af)):Aw7 UAV (List Af)
 |.c0 a b c d=>mk (cond (Ar5 b a.length) (cond (AwT b a.length) (cond (MZ (Eb a b ⟨0,0,false,false,false,false,IK,0⟩).fId c.fId) (cond (AwT b a.length) (cond (Ej ((d.length+1)*48)) (k (.c0 a (Aw6 b) c (d++[Eb a b ⟨0,0,false,false,false,false,IK,0⟩]))) none) none) (k (.c0 a (Aw6 b) c d))) none) (cond (Ej ((d.length+1)*48)) (k (.c1 a 0 c (d++[c]))) none))
 |.c1 b a d c=>mk (cond (Ar5 a b.length) (cond (AwT a b.length) (cond (Ny (Eb b a ⟨0,0,false,false,false,false,IK,0⟩).fId d.fId) (cond (AwT a b.length) (cond (Ej ((c.length+1)*48)) (k (.c1 b (Aw6 a) d (c++[Eb b a ⟨0,0,false,false,false,false,IK,0⟩]))) none) none) (k (.c1 b (Aw6 a) d c))) none) (some c))
def U3:AzH UAV (List Af)
 |0,_=>none
 |m+1,s=>pG (U3 m) s
def zS:KAh:=CAw (U3 AY)
def KBU:AwF:=fy u2 zS AfV AfW [] Tryz.func102 JBU pG CAw U3
inductive WAV where
 |c0 (a:AA) (b:Int) (d:Bo) (e:Ah) (f:AA) (g h:Int) (i:AA) (j:Int) (l:AA) (n o:Int) (p:AA) (q:Int) (t u v:(List Af))
def LBU:WAV->AsN
 |.c0 d e b a f g h i j l n o p q t u v=>(tdo Tryz.f55 32898512,[vp 2 128,vp 3 192,vp 4 256,vs 6 d,vp 8 512,vo 13 880,vi 14 e],[(128,.var [.str b.Bv,li b.DU,.BG 76 b.AZ,li b.BM,.str b.Dh,li b.fCount]),(192,.var [li a.Aj,.str a.fText,li a.DR,li a.Ag.fId,li a.Ag.Aj,.bool a.Ag.CY,.bool a.Ag.CX,.bool a.Ag.Gw,.bool a.Ag.GH,.str a.Ag.fValue,li a.Ag.fNext]),(256,.var [.str f,li g,.own 1016386,li h,.str i,li j]),(512,.var [.str l,li n,.own 1032770,li o,.str p,li q]),(880,.sl 76 t),(1016386,.sl 76 u),(1032770,.sl 76 v)])
def DAw (S:Aq9) (e:AsK) (T:Ql) (F:Aqk) (U:eu) (h:KAh) (f:RZ) (k:Aw7 WAV (Bo×Bool)):Qr:=fun a c=>mk ((S c).bind fun d=>(e a).bind fun C=>cond (!C) (some (Mc,false)) (cond (!d.2) (some (Mc,false)) (cond (a.fCount == 10000) (some (Mc,false)) ((T a).bind fun b=>cond (c.Aj == 1) (cond (Oq a d) ((f ((Tc a)++d.1)).bind fun i=>(e ⟨c.fText,0,DC b,b.BM,i,Av5 a⟩).bind fun D=>ArA D (Mc,false) (⟨c.fText,0,DC b,b.BM,i,Av5 a⟩,true)) none) (cond (c.Aj == 2) (cond (Oq a d) ((f ((Tc a)++d.1)).bind fun j=>(e ⟨b.Bv,c.DR,DC b,b.BM,j,Av5 a⟩).bind fun E=>ArA E (Mc,false) (⟨b.Bv,c.DR,DC b,b.BM,j,Av5 a⟩,true)) none) (cond (c.Aj == 3) ((F a (ArS c).fId).bind fun g=>cond g.2 ((U g.1 (ArS c)).bind fun G=>cond (!G) (some (Mc,false)) (cond (!g.2) (cond ((ArS c).fId != (Aw6 a.BM)) (some (Mc,false)) (cond ((Aww a) == 8) (some (Mc,false)) (cond (!g.2) ((h (DC a) (ArS c)).bind fun l=>cond (Oq a d) ((f ((Tc a)++d.1)).bind fun m=>(e (XB b l c m a)).bind fun H=>ArA H (Mc,false) (XB b l c m a,true)) none) ((h (DC a) (ArS c)).bind fun n=>cond (Oq a d) ((f ((Tc a)++d.1)).bind fun o=>(e (XD b n o a)).bind fun I=>ArA I (Mc,false) (XD b n o a,true)) none)))) (cond (!g.2) ((h (DC a) (ArS c)).bind fun p=>cond (Oq a d) ((f ((Tc a)++d.1)).bind fun q=>(e (XB b p c q a)).bind fun J=>ArA J (Mc,false) (XB b p c q a,true)) none) ((h (DC a) (ArS c)).bind fun r=>cond (Oq a d) ((f ((Tc a)++d.1)).bind fun s=>(e (XD b r s a)).bind fun L=>ArA L (Mc,false) (XD b r s a,true)) none)))) (cond (!g.2) (cond ((ArS c).fId != (Aw6 a.BM)) (some (Mc,false)) (cond ((Aww a) == 8) (some (Mc,false)) (cond (!g.2) ((h (DC a) (ArS c)).bind fun t=>cond (Oq a d) ((f ((Tc a)++d.1)).bind fun u=>(e (XB b t c u a)).bind fun M=>ArA M (Mc,false) (XB b t c u a,true)) none) ((h (DC a) (ArS c)).bind fun v=>cond (Oq a d) ((f ((Tc a)++d.1)).bind fun w=>(e (XD b v w a)).bind fun N=>ArA N (Mc,false) (XD b v w a,true)) none)))) (cond (!g.2) ((h (DC a) (ArS c)).bind fun x=>cond (Oq a d) ((f ((Tc a)++d.1)).bind fun y=>(e (XB b x c y a)).bind fun O=>ArA O (Mc,false) (XB b x c y a,true)) none) ((h (DC a) (ArS c)).bind fun z=>cond (Oq a d) ((f ((Tc a)++d.1)).bind fun A=>(e (XD b z A a)).bind fun P=>ArA P (Mc,false) (XD b z A a,true)) none)))) (cond (c.Aj == 4) ((F a c.DR).bind fun Q=>cond (!Q.2) (some (Mc,false)) (k (.c0 d.1 0 a c IK 0 0 IK 0 b.Bv b.DU b.BM (Tc b) b.fCount [] [] (DC b)))) (cond (Oq a d) ((f ((Tc a)++d.1)).bind fun B=>(e ⟨b.Bv,b.DU,DC b,b.BM,B,Av5 a⟩).bind fun R=>ArA R (Mc,false) (⟨b.Bv,b.DU,DC b,b.BM,B,Av5 a⟩,true)) none))))))))
def CAj (a:Aq9) (b:AsK) (c:Ql) (d:Aqk) (e:eu) (f:KAh) (g:RZ) (k:Aw7 WAV (Bo×Bool)):Aw7 WAV (Bo×Bool)
 |.c0 l i h p r s t u v m n o w x j y z=>mk (cond (Ar5 i (Oi h)) (cond (AwT i (Oi h)) (cond ((Eb (DC h) i ⟨0,0,false,false,false,false,IK,0⟩).fId != p.DR) (cond (AwT i (Oi h)) (cond (Ej ((j.length+1)*48)) (k (.c0 l (Aw6 i) h p r s t u v m n o w x (j++[Eb (DC h) i ⟨0,0,false,false,false,false,IK,0⟩]) y z)) none) none) (k (.c0 l (Aw6 i) h p r s t u v m n o w x j y z))) none) (cond (AwC (Tc h) l) ((g ((Tc h)++l)).bind fun q=>(b ⟨m,n,j,o,q,Av5 h⟩).bind fun A=>ArA A (Mc,false) (⟨m,n,j,o,q,Av5 h⟩,true)) none))
def pI:AzH WAV (Bo×Bool)
 |0,_=>none
 |m+1,s=>CAj dR dS Yi RJ zQ zS JC (pI m) s
def QL:Qr:=DAw dR dS Yi RJ zQ zS JC (pI AY)
def DAj:AwF:=fy u2 QL AVF AEm [XAv,PBE,ARj,qX,IBU,KBU,P5] Tryz.func55 LBU CAj DAw pI
inductive XAV where
 |c0 (a:AA) (b d:Int) (e:(List Int))
def MBU:XAV->AsN
 |.c0 a b d e=>(tdo Tryz.f287 976,[vs 0 a,(1,[.one (.int .u8 b)]),vo 5 368,vi 6 d],[(368,.sl 5 e)])
def EAw (d:RZ) (k:Aw7 XAV AA):VK:=fun a c=>mk (cond ((BF a) > 64) ((d a).bind fun b=>k (.c0 b c 0 (Qp (64:Int)))) (k (.c0 a c 0 (Qp (64:Int)))))
def EAj (a:RZ) (k:Aw7 XAV AA):Aw7 XAV AA
 |.c0 d e b c=>mk (cond (b<64) (cond (MZ b (BF d)) (cond (Avx b (BF d)) (cond (AsI b c) (cond (AsI b (c.set (BN b) (bt d b))) (cond (AsI b (c.set (BN b) (bt d b))) (k (.c0 d e (Aw6 b) ((c.set (BN b) (bt d b)).set (BN b) (w8 (Ii Ar3 (Arn (c.set (BN b) (bt d b)) b) e))))) none) none) none) none) (cond (AsI b c) (cond (AsI b c) (k (.c0 d e (Aw6 b) (c.set (BN b) (w8 (Ii Ar3 (Arn c b) e))))) none) none)) (ArO c))
def dV:AzH XAV AA
 |0,_=>none
 |m+1,s=>EAj JC (dV m) s
def FAj:VK:=EAw JC (dV AY)
def NBU:AwF:=fy u2 FAj AVG Cc [P5] Tryz.func287 MBU EAj EAw dV
def FAw (d:VK) (g:RZ):Ro:=fun e f=>mk ((d e 92).bind fun a=>(d e 54).bind fun b=>AwZ (AwC b f) ((g (b++f)).bind fun c=>AwZ (AwC a c) (Awi (g (a++c)))))
def pJ:Ro:=FAw FAj JC
def RBE:AwF:=BI u2 pJ KJ Cc [NBU,P5] Tryz.func256 FAw
inductive YAV where
 |c0 (a:AA) (b d e:Int) (f:(List Int))
def OBU:YAV->AsN
 |.c0 a b d e f=>(tdo Tryz.f202 976,[vs 0 a,vi 1 b,vi 2 d,vo 8 560,vi 9 e],[(560,.sl 5 f)])
def GAw (b:AwU) (g h:CG) (i:Ro) (k:Aw7 YAV (AA×Bool)):Yw:=fun f c e=>mk ((b c 0 1000000000).bind fun a=>cond (!a) (LZ (IK,false)) ((b e 0 8000).bind fun d=>cond (!d) (LZ (IK,false)) (k (.c0 f c e 0 []))))
def GAj (a:AwU) (b c:CG) (d:Ro) (k:Aw7 YAV (AA×Bool)):Aw7 YAV (AA×Bool)
 |.c0 m j f l e=>mk (cond (MZ (NZ e) f) ((b j).bind fun g=>cond (AwC fM g) ((c l).bind fun i=>cond (ArC fM g i) ((d m ((fM++g)++i)).bind fun h=>cond (Pz h) (cond (rV e h) (k (.c0 m j f (Aw6 l) (e++(Aq6 h)))) none) none) none) none) (Eo (GL f (NZ e)) (LZ (ofBytes ((e.drop 0).take ((BN f) - 0)),true))))
def pK:AzH YAV (AA×Bool)
 |0,_=>none
 |m+1,s=>GAj Je Qg J9 pJ (pK m) s
def zT:Yw:=GAw Je Qg J9 pJ (pK AY)
def SBE:AwF:=fy u3 zT wR IQ [JV,ZN,XL,RBE] Tryz.func202 OBU GAj GAw pK
inductive AA6 where
 |c0 (a:AA) (b:Int) (d:(List Int))
def PBU:AA6->AsN
 |.c0 a b d=>(tdo Tryz.f205 464,[vs 1 a,vo 5 368,vi 6 b],[(368,.sl 5 d)])
def HAw (k:Aw7 AA6 AA):Ro:=fun a b=>mk (cond (Pz a) (k (.c0 b 0 (Aq6 a))) none)
def HAj (k:Aw7 AA6 AA):Aw7 AA6 AA
 |.c0 c a b=>mk (cond (MZ a (NZ b)) (cond (AsI a b) (cond (Avx a (BF c)) (cond (AsI a b) (k (.c0 c (Aw6 a) (b.set (BN a) (w8 (Ii Ar3 (Arn b a) (bt c a)))))) none) none) none) (ArO b))
def pO:AzH AA6 AA
 |0,_=>none
 |m+1,s=>HAj (pO m) s
def zU:Ro:=HAw (pO AY)
def TBE:AwF:=fy u2 zU KJ Cc [] Tryz.func205 PBU HAj HAw pO
def IAw (d:CG) (f:Ro):Yx:=fun g e c=>mk ((d e).bind fun a=>AwZ (AwC AxA a) (AwZ (ArC AxA a c) ((f g ((AxA++a)++c)).bind fun b=>AwZ ((AwQ Qa (16:Int)) && (decide (16<=(BF b)))) (some (Arz b (16:Int))))))
def zV:Yx:=IAw Qg pJ
def UBE:AwF:=BI u3 zV VA Cc [ZN,RBE] Tryz.func204 IAw
def JAw (g:Yw) (h:Ro) (i:Yx):LV:=fun d e f=>mk ((g d e (BF f)).bind fun b=>cond (!b.2) (LZ (IK,false)) ((h f b.1).bind fun a=>(i d e a).bind fun c=>Eo (AwC a c) (LZ (a++c,true))))
def pR:LV:=JAw zT zU zV
def VBE:AwF:=BI u3 pR VA IQ [SBE,TBE,UBE] Tryz.func218 JAw
inductive DAW where
 |c0 (a:Int) (b:AA) (d:Int)
 |c1 (a:Int) (b:AA) (d e:Int)
def QBU:DAW->AsN
 |.c0 a b d=>(tdo Tryz.f258 208,[(0,[.one (.int .u32 a)]),vs 1 b,vi 5 d],[])
 |.c1 a b d e=>(tdo Tryz.f258 26928,[(0,[.one (.int .u32 a)]),vs 1 b,vi 5 d,vi 6 e],[])
def KAw (k:Aw7 DAW Int):qc:=fun a b=>k (.c0 a b 0)
def pU (k:Aw7 DAW Int):Aw7 DAW Int
 |.c0 c b a=>mk (cond (MZ a (BF b)) (cond (Avx a (BF b)) (k (.c1 (Aqb Jd c (w32 (bt b a))) b a 0)) none) (some c))
 |.c1 a c d b=>mk (cond (b<8) (cond (ArT a) (k (.c1 (w32 ((BitVec.toNat ((BitVec.ofInt Jd (w32 (a.tdiv 2))) ^^^ (BitVec.ofInt Jd 3558460437)):Nat):Int)) c d (Aw6 b))) (k (.c1 (w32 (a.tdiv 2)) c d (Aw6 b)))) (k (.c0 a c (Aw6 d))))
def Aqv:AzH DAW Int
 |0,_=>none
 |m+1,s=>pU (Aqv m) s
def IAj:qc:=KAw (Aqv AY)
def RBU:AwF:=fy u2 IAj AVH UG [] Tryz.func258 QBU pU KAw Aqv
def LAw (b:qc):Yy:=fun c=>(b 4294967295 c).bind fun a=>some a
def JAj:Yy:=LAw IAj
def SBU:AwF:=BI u1 JAj Cc UG [RBU] Tryz.func211 LAw
def MAw:CG:=fun a=>mk (ArO [w8 (VX a (24:Int)),w8 (VX a (16:Int)),w8 (VX a (8:Int)),w8 a])
def KAj:CG:=MAw
def TBU:AwF:=BI u1 KAj UG Cc [] Tryz.func210 MAw
def NAw (f:AwU) (g:CG) (h:Yy) (i:CG):Aqn:=fun a=>mk ((f (BF a) 1 9000).bind fun d=>cond (!d) (LZ (IK,false)) ((g (BF a)).bind fun b=>(h a).bind fun e=>(i e).bind fun c=>Eo (AwC b c) (Eo (ArC b c a) (LZ ((b++c)++a,true)))))
def Yj:Aqn:=NAw Je Qg JAj KAj
def OAw:AwF:=BI u1 Yj Cc IQ [JV,ZN,SBU,TBU] Tryz.func143 NAw
def PAw (f:Aq9) (h:AwU) (i:LV) (l:Aqn):XM:=fun j c g=>mk ((f g).bind fun a=>cond (!a.2) (some ([],false)) ((h c 0 10000).bind fun b=>cond (!b) (some ([],false)) ((i j (Aw6 c) a.1).bind fun d=>(l d.1).bind fun e=>some ([⟨1,Qw,e.1,IK⟩,⟨2,Qw,IK,IK⟩],true))))
def pV:XM:=PAw dR Je pR Yj
def WBE:AwF:=BI u3 pV AVI AVJ [XAv,JV,VBE,OAw] Tryz.func175 PAw
def QAw (a:AwU):FAU:=fun b=>mk (Aqr (a (BF b) 1 8))
def pW:FAU:=QAw Je
def XBE:AwF:=BI u1 pW Cc E8 [JV] Tryz.func134 QAw
inductive EAW where
 |c0 (a:Int) (b:BU)
def UBU:EAW->AsN
 |.c0 a b=>(tdo Tryz.f85 464,[vp 1 64,vi 3 a],[(64,.var [.BG 90 b.Ak])])
def RAw (b:FAU) (c:AwU) (k:Aw7 EAW Bool):Arj:=fun a=>mk (cond ((AxK a:Int) > 30) (some false) (k (.c0 0 a)))
def LAj (a:FAU) (b:AwU) (k:Aw7 EAW Bool):Aw7 EAW Bool
 |.c0 c d=>mk (cond (Ar5 c (AxK d)) (cond (Jt c d) ((a (Aqt d c).fName).bind fun e=>cond (!e) (some false) (cond ((AsL d c) > 20000) (some false) ((b (Jc d c) 0 (AsL d c)).bind fun f=>cond (!f) (some false) (cond (Arf c) (cond (Avx (Awm c) (AxK d:Int)) (cond (!(rQ (Ib d.Ak (Awm c)) (Aqt d c))) (some false) (k (.c0 (Aw6 c) d))) none) (k (.c0 (Aw6 c) d)))))) none) (some true))
def pX:AzH EAW Bool
 |0,_=>none
 |m+1,s=>LAj pW Je (pX m) s
def WT:Arj:=RAw pW Je (pX AY)
def MAj:AwF:=fy u1 WT AKp E8 [XBE,JV] Tryz.func85 UBU LAj RAw pX
inductive FAW where
 |c0 (a:AA) (b:Int) (d:BU)
def VBU:FAW->AsN
 |.c0 a b d=>(tdo Tryz.f96 208,[vs 1 a,vp 2 128,vi 5 b],[(128,.var [.BG 90 d.Ak])])
def SAw (k:Aw7 FAW Int):ArW:=fun b a=>k (.c0 a 0 b)
def NAj (k:Aw7 FAW Int):Aw7 FAW Int
 |.c0 c a b=>mk (cond (Ar5 a (AxK b)) (cond (Jt a b) (cond (EU (Aqt b a).fName c) (some a) (k (.c0 c (Aw6 a) b))) none) AxI)
def pq:AzH FAW Int
 |0,_=>none
 |m+1,s=>NAj (pq m) s
def pY:ArW:=SAw (pq AY)
def TAw:AwF:=fy u2 pY wS FN [] Tryz.func96 VBU NAj SAw pq
inductive GAW where
 |c0 (f:Int) (a:BU) (b:BQ) (d e:(List BQ))
 |c1 (g:Int) (a:BU) (b:BQ) (d e:(List BQ))
def WBU:GAW->AsN
 |.c0 f b a d e=>(tdo Tryz.f251 464,[vp 2 128,vp 3 192,vp 4 256,vp 5 320,vi 6 f],[(128,.var [.BG 90 b.Ak]),(192,.var [.str a.fName,.str a.fText,li a.J3]),(256,.var [.own 1016384]),(320,.var [.own 1020480]),(1016384,.sl 90 d),(1020480,.sl 90 e)])
 |.c1 g b a d e=>(tdo Tryz.f251 2000,[vp 2 128,vp 3 192,vp 4 256,vp 5 320,vi 7 g],[(128,.var [.BG 90 b.Ak]),(192,.var [.str a.fName,.str a.fText,li a.J3]),(256,.var [.own 1016384]),(320,.var [.own 1020480]),(1016384,.sl 90 d),(1020480,.sl 90 e)])
def UAw (k:Aw7 GAW BU):qg:=fun a b=>k (.c0 0 a b [] [])
def pz (k:Aw7 GAW BU):Aw7 GAW BU
 |.c0 b a c e d=>mk (cond (Ar5 b (AxK a)) (cond (Jt b a) (cond (rQ (Aqt a b) c) (cond (Jt b a) (cond (Rk d) (k (.c0 (Aw6 b) a c e (d++[Aqt a b]))) none) none) (k (.c0 (Aw6 b) a c e d))) none) (cond (Rk d) (k (.c1 0 a c e (d++[c]))) none))
 |.c1 a b c e d=>mk (cond (Ar5 a (AxK b)) (cond (Jt a b) (cond (!((rQ (Aqt b a) c) || (EU (Aqt b a).fName c.fName))) (cond (Jt a b) (cond (Rk d) (k (.c1 (Aw6 a) b c e (d++[Aqt b a]))) none) none) (k (.c1 (Aw6 a) b c e d))) none) (some ⟨d⟩))
def Aqa:AzH GAW BU
 |0,_=>none
 |m+1,s=>pz (Aqa m) s
def OAj:qg:=UAw (Aqa AY)
def XBU:AwF:=fy u2 OAj AfX jo [] Tryz.func251 WBU pz UAw Aqa
inductive HAW where
 |c0 (a:AA) (b:Int) (d:BU) (e f:(List BQ))
def YBU:HAW->AsN
 |.c0 a b d e f=>(tdo Tryz.f252 464,[vs 1 a,vp 2 128,vp 4 256,vp 5 320,vi 6 b],[(128,.var [.BG 90 d.Ak]),(256,.var [.own 1016384]),(320,.var [.own 1020480]),(1016384,.sl 90 e),(1020480,.sl 90 f)])
def VAw (k:Aw7 HAW BU):Yz:=fun b a=>k (.c0 a 0 b [] [])
def PAj (k:Aw7 HAW BU):Aw7 HAW BU
 |.c0 d a b e c=>mk (cond (Ar5 a (AxK b)) (cond (Jt a b) (cond (!(EU (Aqt b a).fName d)) (cond (Jt a b) (cond (Rk c) (k (.c0 d (Aw6 a) b e (c++[Aqt b a]))) none) none) (k (.c0 d (Aw6 a) b e c))) none) (some ⟨c⟩))
def qA:AzH HAW BU
 |0,_=>none
 |m+1,s=>PAj (qA m) s
def QAj:Yz:=VAw (qA AY)
def ZBU:AwF:=fy u2 QAj wS jo [] Tryz.func252 YBU PAj VAw qA
def WAw (c:Arj) (j:FAU) (l:ArW) (d:qg) (e:Yz):Y0:=fun b a=>mk (Nw (c b) (Qb (IZ,false)) (Nw (j a.fName) (Qb (IZ,false)) (cond (a.Aj != 3) (cond (!(EU a.I8 IK)) (Qb (IZ,false)) (cond (a.Aj != 1) (cond (!(EU a.fText IK)) (Qb (IZ,false)) ((l b a.fName).bind fun f=>cond (JF f) (ArK (Jt f b) (cond (NU a) (ArK (AwC (Uj b f) a.fText) ((d b (XA b f a)).bind fun m=>Aw1 c m (IZ,false) (m,true))) (cond (Avd f) (Qb (IZ,false)) (cond (NV a) ((d b (XC b f)).bind fun n=>Aw1 c n (IZ,false) (n,true)) (NR a.Aj (MZ (Jc b f) (AsL b f)) (Qb (IZ,false)) (cond (NT a) (Qb (IZ,false)) (Nw (j a.I8) (Qb (IZ,false)) ((e b a.fName).bind fun T=>(d T (XJ a b f)).bind fun o=>Aw1 c o (IZ,false) (o,true)))) (NW a) ((e b a.fName).bind fun p=>Aw1 c p (IZ,false) (p,true))))))) (cond (NU a) (ArK (XH a) ((d b (XE a)).bind fun q=>Aw1 c q (IZ,false) (q,true))) (cond (Avd f) (Qb (IZ,false)) (cond (NV a) ((d b (XF a)).bind fun r=>Aw1 c r (IZ,false) (r,true)) (NR a.Aj (NT a) (Qb (IZ,false)) (Nw (j a.I8) (Qb (IZ,false)) ((e b a.fName).bind fun U=>(d U (XK a)).bind fun s=>Aw1 c s (IZ,false) (s,true))) (NW a) ((e b a.fName).bind fun t=>Aw1 c t (IZ,false) (t,true)))))))) ((l b a.fName).bind fun g=>cond (JF g) (ArK (Jt g b) (cond (NU a) (ArK (AwC (Uj b g) a.fText) ((d b (XA b g a)).bind fun u=>Aw1 c u (IZ,false) (u,true))) (cond (Avd g) (Qb (IZ,false)) (cond (NV a) ((d b (XC b g)).bind fun v=>Aw1 c v (IZ,false) (v,true)) (NR a.Aj (MZ (Jc b g) (AsL b g)) (Qb (IZ,false)) (cond (NT a) (Qb (IZ,false)) (Nw (j a.I8) (Qb (IZ,false)) ((e b a.fName).bind fun V=>(d V (XJ a b g)).bind fun w=>Aw1 c w (IZ,false) (w,true)))) (NW a) ((e b a.fName).bind fun x=>Aw1 c x (IZ,false) (x,true))))))) (cond (NU a) (ArK (XH a) ((d b (XE a)).bind fun y=>Aw1 c y (IZ,false) (y,true))) (cond (Avd g) (Qb (IZ,false)) (cond (NV a) ((d b (XF a)).bind fun z=>Aw1 c z (IZ,false) (z,true)) (NR a.Aj (NT a) (Qb (IZ,false)) (Nw (j a.I8) (Qb (IZ,false)) ((e b a.fName).bind fun W=>(d W (XK a)).bind fun A=>Aw1 c A (IZ,false) (A,true))) (NW a) ((e b a.fName).bind fun B=>Aw1 c B (IZ,false) (B,true))))))))) (cond (a.Aj != 1) (cond (!(EU a.fText IK)) (Qb (IZ,false)) ((l b a.fName).bind fun h=>cond (JF h) (ArK (Jt h b) (cond (NU a) (ArK (AwC (Uj b h) a.fText) ((d b (XA b h a)).bind fun C=>Aw1 c C (IZ,false) (C,true))) (cond (Avd h) (Qb (IZ,false)) (cond (NV a) ((d b (XC b h)).bind fun D=>Aw1 c D (IZ,false) (D,true)) (NR a.Aj (MZ (Jc b h) (AsL b h)) (Qb (IZ,false)) (cond (NT a) (Qb (IZ,false)) (Nw (j a.I8) (Qb (IZ,false)) ((e b a.fName).bind fun X=>(d X (XJ a b h)).bind fun E=>Aw1 c E (IZ,false) (E,true)))) (NW a) ((e b a.fName).bind fun F=>Aw1 c F (IZ,false) (F,true))))))) (cond (NU a) (ArK (XH a) ((d b (XE a)).bind fun G=>Aw1 c G (IZ,false) (G,true))) (cond (Avd h) (Qb (IZ,false)) (cond (NV a) ((d b (XF a)).bind fun H=>Aw1 c H (IZ,false) (H,true)) (NR a.Aj (NT a) (Qb (IZ,false)) (Nw (j a.I8) (Qb (IZ,false)) ((e b a.fName).bind fun Y=>(d Y (XK a)).bind fun I=>Aw1 c I (IZ,false) (I,true))) (NW a) ((e b a.fName).bind fun J=>Aw1 c J (IZ,false) (J,true)))))))) ((l b a.fName).bind fun i=>cond (JF i) (ArK (Jt i b) (cond (NU a) (ArK (AwC (Uj b i) a.fText) ((d b (XA b i a)).bind fun L=>Aw1 c L (IZ,false) (L,true))) (cond (Avd i) (Qb (IZ,false)) (cond (NV a) ((d b (XC b i)).bind fun M=>Aw1 c M (IZ,false) (M,true)) (NR a.Aj (MZ (Jc b i) (AsL b i)) (Qb (IZ,false)) (cond (NT a) (Qb (IZ,false)) (Nw (j a.I8) (Qb (IZ,false)) ((e b a.fName).bind fun Z=>(d Z (XJ a b i)).bind fun N=>Aw1 c N (IZ,false) (N,true)))) (NW a) ((e b a.fName).bind fun O=>Aw1 c O (IZ,false) (O,true))))))) (cond (NU a) (ArK (XH a) ((d b (XE a)).bind fun P=>Aw1 c P (IZ,false) (P,true))) (cond (Avd i) (Qb (IZ,false)) (cond (NV a) ((d b (XF a)).bind fun Q=>Aw1 c Q (IZ,false) (Q,true)) (NR a.Aj (NT a) (Qb (IZ,false)) (Nw (j a.I8) (Qb (IZ,false)) ((e b a.fName).bind fun a0=>(d a0 (XK a)).bind fun R=>Aw1 c R (IZ,false) (R,true))) (NW a) ((e b a.fName).bind fun S=>Aw1 c S (IZ,false) (S,true)))))))))))
def zX:Y0:=WAw WT pW pY OAj QAj
def Alr:AwF:=BI u2 zX AVK jq [MAj,XBE,TAw,XBU,ZBU] Tryz.func195 WAw
inductive JAW where
 |c0 (a:(List Ef)) (b:Int) (d e:(List BQ))
def BBV:JAW->AsN
 |.c0 a b d e=>(tdo Tryz.f132 464,[vr 1 136 a,vp 4 256,vp 6 384,vi 7 b],[(256,.var [.own 1016384]),(384,.var [.own 1024576]),(1016384,.sl 90 d),(1024576,.sl 90 e)])
def XAw (c:Y0) (k:Aw7 JAW (BU×Int)):VH:=fun a b=>mk (cond (Ej ((0+(AxK a))*40)) (k (.c0 b 0 [] a.Ak)) none)
def RAj (a:Y0) (k:Aw7 JAW (BU×Int)):Aw7 JAW (BU×Int)
 |.c0 c b f e=>mk (cond (Ar5 b c.length) (cond (AwT b c.length) ((a ⟨e⟩ (c.getD (BN b) (⟨0,IK,IK,IK⟩:Ef))).bind fun d=>cond (!d.2) (some (⟨e⟩,b)) (k (.c0 c (Aw6 b) f d.1.Ak))) none) (some (⟨e⟩,Qi c)))
def qC:AzH JAW (BU×Int)
 |0,_=>none
 |m+1,s=>RAj zX (qC m) s
def qB:VH:=XAw zX (qC AY)
def YAw:AwF:=fy u2 qB AVL AVM [Alr] Tryz.func132 BBV RAj XAw qC
def ZAw (c:XM) (g:VH):GAU:=fun d h e f=>(c d e f).bind fun a=>(g h a.1).bind fun b=>some b.1
def aO:GAU:=ZAw pV qB
def YBE:AwF:=BI u4 aO AfY jo [WBE,YAw] Tryz.func123 ZAw
def AQQ (g:RZ) (h:Arr) (i:Qr) (j:GAU):eU:=fun a c=>mk (cond ((BF a) != 32) (some (⟨IK,false,IZ,Mc,[],[],0⟩,false)) (cond ((BF c) > 20) (some (⟨IK,false,IZ,Mc,[],[],0⟩,false)) ((g c).bind fun b=>h.bind fun d=>(i d ⟨1,b,0,⟨0,0,false,false,false,false,IK,0⟩⟩).bind fun e=>(j a IZ 0 ⟨1,b,0,⟨0,0,false,false,false,false,IK,0⟩⟩).bind fun f=>some (⟨a,true,f,e.1,[],[],0⟩,true))))
def SAj:eU:=AQQ JC RI QL aO
def CBV:AwF:=BI u2 SAj KJ AEn [P5,eX,DAj,YBE] Tryz.func72 AQQ
def BAx (d:eU) (f:RZ):qW:=fun e b=>mk ((d e b).bind fun a=>cond (!a.2) (some (⟨⟨IK,false,IZ,Mc,[],[],0⟩,[],[],[],[]⟩,false)) ((f b).bind fun c=>some (⟨a.1,[],[],[],[⟨1,c,0,⟨0,0,false,false,false,false,IK,0⟩⟩]⟩,true)))
def aV:qW:=BAx SAj JC
def ZBE:AwF:=BI u2 aV KJ AKq [CBV,P5] Tryz.func33 BAx
def CAx (b:AwJ):fA:=fun c d=>mk ((b (Ia c) d).bind fun a=>some (EF a.1,Ia a.2))
def Avm:fA:=CAx AsP
def DAx:AwF:=BI u2 Avm cv5 AfZ [fZ] Tryz.func104 CAx [0]
def EAx (c:AwJ):LAh:=fun d b=>mk ((c (Ia d) (NZ b)).bind fun a=>cond (Avx a.1 (NZ b)) (some (Arn b a.1,Ia a.2)) none)
def zi:LAh:=EAx AsP
def DBV:AwF:=BI u2 zi Afa cv4 [fZ] Tryz.func150 EAx [0]
def FAx (c:AwJ):HAU:=fun d b=>mk ((c (Ia d) (Qd b)).bind fun a=>cond (Avx a.1 (Qd b)) (some (Ig b a.1 IK,Ia a.2)) none)
def qF:HAU:=FAx AsP
def AZL:AwF:=BI u2 qF Afb AVN [fZ] Tryz.func151 FAx [0]
inductive MAW where
 |c0 (a b:Int) (d e:Int) (f:(List Int))
def EBV:MAW->AsN
 |.c0 a b d e f=>(tdo Tryz.f217 976,[vp 0 0,vi 1 a,vo 5 368,vi 6 b],[(0,.var [.J4,li d,li e]),(368,.sl 5 f)])
def GAx (c:EAU) (k:Aw7 MAW (AA×DZ)):VAt:=fun a b=>cond (b > 5000) (k (.c0 5000 0 a.fI a.AyA [])) (k (.c0 b 0 a.fI a.AyA []))
def TAj (a:EAU) (k:Aw7 MAW (AA×DZ)):Aw7 MAW (AA×DZ)
 |.c0 e d f g c=>mk (cond (MZ d e) ((a ⟨(),f,g⟩).bind fun b=>cond (NS c) (k (.c0 e (Aw6 d) b.2.fI b.2.AyA (c++[w8 b.1]))) none) (some (ofBytes c,⟨(),f,g⟩)))
def dW:AzH MAW (AA×DZ)
 |0,_=>none
 |m+1,s=>TAj oZ (dW m) s
def UAj:VAt:=GAx oZ (dW AY)
def FBV:AwF:=fy u2 UAj cv5 AVN [BBE] Tryz.func217 EBV TAj GAx dW [0]
def HAx (e:AwJ) (f:fA) (t:VAt) (o:HAU) (q:RZ):MAh:=fun s=>mk ((e (Ia s) 6).bind fun c=>(e (Ia c.2) 3).bind fun a=>(f (Ia a.2) 2).bind fun d=>(f (Ia d.2) 2).bind fun b=>cond ((Ad (1+a.1)) == 3) ((e (Ia b.2) 9).bind fun g=>(t (Ia g.2) g.1).bind fun h=>some (⟨Ad (1+c.1),Ad (1+a.1),d.1,b.1,false,false,h.1,0⟩,Ia h.2)) (cond ((Ad (1+a.1)) == 2) ((e (Ia b.2) 17).bind fun i=>(f (Ia i.2) 4).bind fun j=>(o (Ia j.2) NAi).bind fun l=>(q l.1).bind fun p=>some (⟨Ad (1+c.1),Ad (1+a.1),d.1,b.1,!j.1,false,p,i.1⟩,Ia l.2)) ((f (Ia b.2) 4).bind fun m=>(o (Ia m.2) NAi).bind fun n=>(q n.1).bind fun r=>some (⟨Ad (1+c.1),Ad (1+a.1),d.1,b.1,false,!m.1,r,0⟩,Ia n.2))))
def zk:MAh:=HAx AsP Avm UAj qF JC
def GBV:AwF:=BI u1 zk cv3 Afc [fZ,DAx,FBV,AZL,P5] Tryz.func152 HAx [0]
def IAx (b:RZ):Avl:=fun a=>mk (AwZ (AwC rW a.BO) (Awi (b (rW++a.BO))))
def cO:Avl:=IAx JC
def JAx:AwF:=BI u1 cO RD Cc [P5] Tryz.func154 IAx
inductive OAW where
 |c0 (a:AA) (b:(List Int))
def HBV:OAW->AsN
 |.c0 a b=>(tdo Tryz.f153 480,[vs 0 a,vo 6 432],[(432,.sl 5 b)])
def KAx (c:CG) (e:LV) (k:Aw7 OAW (AA×Bool)):Avv:=fun d a=>mk (cond ((BF a) > 400) (LZ (IK,false)) ((c (BF a)).bind fun b=>cond (AwC b a) (cond (Pz (b++a)) (k (.c0 d (Aq6 (b++a)))) none) none))
def VAj (a:CG) (b:LV) (k:Aw7 OAW (AA×Bool)):Aw7 OAW (AA×Bool)
 |.c0 e c=>mk (cond (((NZ c).tmod 16) != 0) (cond (NS c) (k (.c0 e (c++[Qa]))) none) ((b e 0 (ofBytes c)).bind fun d=>LZ (d.1,d.2)))
def ni:AzH OAW (AA×Bool)
 |0,_=>none
 |m+1,s=>VAj Qg pR (ni m) s
def cZ:Avv:=KAx Qg pR (ni AY)
def LAx:AwF:=fy u2 cZ KJ IQ [ZN,VBE] Tryz.func153 HBV VAj KAx ni
inductive PAW where
 |c0 (f:AA) (a b:Int) (g:Ap) (d e:CV)
 |c1 (f:AA) (h a b:Int) (g:Ap) (d e:CV)
 |c2 (f:AA) (a b:Int) (g:Ap) (d e:CV)
 |c3 (a b:Int) (d e:CV)
 |c4 (a b:Int) (d e:CV)
def IBV:PAW->AsN
 |.c0 g e f d a b=>(tdo Tryz.f105 60,[vp 0 0,vs 2 g,vp 4 256,vp 6 384,vp 7 448],[(0,.var [.J4,li e,li f]),(256,.var [.str d.BO,.bool d.CZ,.BG 90 d.Bc.Ak,.str d.AU.Bv,li d.AU.DU,.BG 76 d.AU.AZ,li d.AU.BM,.str d.AU.Dh,li d.AU.fCount,.BG 127 d.BP,.BG 157 d.BD,li d.CW]),(384,.var [li a.Au,li a.EJ,li a.Ag,li a.Aj,.str a.fText,.bool a.CY,.bool a.CX]),(448,.var [li b.Au,li b.EJ,li b.Ag,li b.Aj,.str b.fText,.bool b.CY,.bool b.CX])])
 |.c1 g h e f d a b=>(tdo Tryz.f105 31440,[vp 0 0,vs 2 g,vp 4 256,vp 6 384,vp 7 448,vi 8 h],[(0,.var [.J4,li e,li f]),(256,.var [.str d.BO,.bool d.CZ,.BG 90 d.Bc.Ak,.str d.AU.Bv,li d.AU.DU,.BG 76 d.AU.AZ,li d.AU.BM,.str d.AU.Dh,li d.AU.fCount,.BG 127 d.BP,.BG 157 d.BD,li d.CW]),(384,.var [li a.Au,li a.EJ,li a.Ag,li a.Aj,.str a.fText,.bool a.CY,.bool a.CX]),(448,.var [li b.Au,li b.EJ,li b.Ag,li b.Aj,.str b.fText,.bool b.CY,.bool b.CX])])
 |.c2 g e f d a b=>(tdo Tryz.f105 124,[vp 0 0,vs 2 g,vp 4 256,vp 6 384,vp 7 448],[(0,.var [.J4,li e,li f]),(256,.var [.str d.BO,.bool d.CZ,.BG 90 d.Bc.Ak,.str d.AU.Bv,li d.AU.DU,.BG 76 d.AU.AZ,li d.AU.BM,.str d.AU.Dh,li d.AU.fCount,.BG 127 d.BP,.BG 157 d.BD,li d.CW]),(384,.var [li a.Au,li a.EJ,li a.Ag,li a.Aj,.str a.fText,.bool a.CY,.bool a.CX]),(448,.var [li b.Au,li b.EJ,li b.Ag,li b.Aj,.str b.fText,.bool b.CY,.bool b.CX])])
 |.c3 e f a b=>(tdo Tryz.f105 252,[vp 0 0,vp 6 384,vp 7 448],[(0,.var [.J4,li e,li f]),(384,.var [li a.Au,li a.EJ,li a.Ag,li a.Aj,.str a.fText,.bool a.CY,.bool a.CX]),(448,.var [li b.Au,li b.EJ,li b.Ag,li b.Aj,.str b.fText,.bool b.CY,.bool b.CX])])
 |.c4 e f a b=>(tdo Tryz.f105 508,[vp 0 0,vp 6 384,vp 7 448],[(0,.var [.J4,li e,li f]),(384,.var [li a.Au,li a.EJ,li a.Ag,li a.Aj,.str a.fText,.bool a.CY,.bool a.CX]),(448,.var [li b.Au,li b.EJ,li b.Ag,li b.Aj,.str b.fText,.bool b.CY,.bool b.CX])])
def MAx (f:LAh) (h:AwJ) (i:fA) (j:HAU) (l:MAh) (m:Awt) (n:Avl) (o:Avv) (k:Aw7 PAW (CV×DZ)):WAt:=fun g a e=>mk ((f (Ia g) [1,2,2,3,4,4,4,5,5,5,6,7,8,9,10,11,12,13]).bind fun c=>cond (EF (He a:Int)) (k (.c0 e c.2.fI c.2.AyA a ⟨0,0,0,0,IK,false,false⟩ ⟨1,0,0,0,IK,false,false⟩)) ((h (Ia c.2) (He a:Int)).bind fun b=>cond (Avx b.1 (He a:Int)) (cond (VI Qa (He a:Int)) (cond (!(Arb (Md a) Qa ⟨0,false⟩).QW) ((i (Ia b.2) 4).bind fun d=>cond (!d.1) (cond (VI Qa (He a:Int)) (k (.c0 e d.2.fI d.2.AyA a ⟨0,0,0,0,IK,false,false⟩ ⟨2,(Arb (Md a) Qa ⟨0,false⟩).fId,0,0,IK,false,false⟩)) none) (k (.c0 e d.2.fI d.2.AyA a ⟨0,0,0,0,IK,false,false⟩ ⟨c.1,(Arb (Md a) b.1 ⟨0,false⟩).fId,0,0,IK,false,false⟩))) (k (.c0 e b.2.fI b.2.AyA a ⟨0,0,0,0,IK,false,false⟩ ⟨c.1,(Arb (Md a) b.1 ⟨0,false⟩).fId,0,0,IK,false,false⟩))) none) none))
def Xh (a:LAh) (b:AwJ) (c:fA) (d:HAU) (e:MAh) (f:Awt) (g:Avl) (h:Avv) (k:Aw7 PAW (CV×DZ)):Aw7 PAW (CV×DZ)
 |.c0 m o p j n i=>mk (cond (Arf (Aww (Ar8 j))) ((b ⟨(),o,p⟩ (Aww (Ar8 j))).bind fun l=>cond (Avx l.1 (Aww (Ar8 j))) (cond (i.Au == 5) (k (.c1 m 0 l.2.fI l.2.AyA j n ⟨i.Au,AxD i,(Eb (DC (Ar8 j)) l.1 ⟨0,0,false,false,false,false,IK,0⟩).fId,i.Aj,i.fText,i.CY,i.CX⟩)) (k (.c2 m l.2.fI l.2.AyA j n ⟨i.Au,AxD i,(Eb (DC (Ar8 j)) l.1 ⟨0,0,false,false,false,false,IK,0⟩).fId,i.Aj,i.fText,i.CY,i.CX⟩))) none) (k (.c2 m o p j n i)))
 |.c1 n l p q i o j=>mk (cond (Ar5 l (Oi (Ar8 i))) (cond (AwT l (Oi (Ar8 i))) (cond (FK (Eb (DC (Ar8 i)) l ⟨0,0,false,false,false,false,IK,0⟩)) ((c ⟨(),p,q⟩ 3).bind fun m=>cond (!m.1) (cond (AwT l (Oi (Ar8 i))) (k (.c1 n (Aw6 l) m.2.fI m.2.AyA i o ⟨j.Au,AxD j,(Eb (DC (Ar8 i)) l ⟨0,0,false,false,false,false,IK,0⟩).fId,j.Aj,j.fText,j.CY,j.CX⟩)) none) (k (.c1 n (Aw6 l) m.2.fI m.2.AyA i o j))) (k (.c1 n (Aw6 l) p q i o j))) none) (k (.c2 n p q i o j)))
 |.c2 w l m A j i=>mk (cond (i.Au == 2) ((c ⟨(),l,m⟩ 4).bind fun n=>cond n.1 (k (.c3 n.2.fI n.2.AyA j ⟨i.Au,AxD i,i.Ag,i.Aj,⟨#[110,111]⟩,i.CY,i.CX⟩)) (k (.c3 n.2.fI n.2.AyA j ⟨i.Au,AxD i,i.Ag,i.Aj,w,i.CY,i.CX⟩))) (cond (i.Au == 3) (k (.c3 l m j ⟨i.Au,AxD i,i.Ag,i.Aj,w,i.CY,i.CX⟩)) (cond (i.Au == 4) ((a ⟨(),l,m⟩ [1,2,2,2,3,3]).bind fun s=>(d (Ia s.2) NAi).bind fun t=>(c (Ia t.2) 3).bind fun u=>(c (Ia u.2) 3).bind fun o=>k (.c3 o.2.fI o.2.AyA j ⟨i.Au,AxD i,i.Ag,s.1,t.1,u.1,o.1⟩)) (cond (i.Au == 5) ((d ⟨(),l,m⟩ [⟨#[109]⟩,⟨#[110]⟩]).bind fun p=>k (.c3 p.2.fI p.2.AyA j ⟨i.Au,AxD i,i.Ag,i.Aj,p.1,i.CY,i.CX⟩)) (cond (i.Au == 8) ((c ⟨(),l,m⟩ 4).bind fun v=>(c (Ia v.2) 2).bind fun q=>k (.c3 q.2.fI q.2.AyA j ⟨i.Au,AxD i,i.Ag,i.Aj,i.fText,!v.1,q.1⟩)) (cond (i.Au == 11) ((e ⟨(),l,m⟩).bind fun r=>(f r.1).bind fun x=>(g A).bind fun y=>(h y x.1).bind fun z=>k (.c3 r.2.fI r.2.AyA j ⟨i.Au,AxD i,i.Ag,i.Aj,z.1,i.CY,i.CX⟩)) (k (.c3 l m j i))))))))
 |.c3 n o m i=>mk ((c ⟨(),n,o⟩ 20).bind fun j=>cond j.1 ((b (Ia j.2) 5).bind fun l=>k (.c4 l.2.fI l.2.AyA m ⟨i.Au,l.1,i.Ag,i.Aj,i.fText,i.CY,i.CX⟩)) (k (.c4 j.2.fI j.2.AyA m i)))
 |.c4 m n _ i=>mk ((c ⟨(),m,n⟩ 20).bind fun j=>cond j.1 ((b (Ia j.2) 9).bind fun l=>some (⟨i.Au,AxD i,l.1,i.Aj,i.fText,i.CY,i.CX⟩,Ia l.2)) (some (i,Ia j.2)))
def O8:AzH PAW (CV×DZ)
 |0,_=>none
 |m+1,s=>Xh zi AsP Avm qF zk Yg cO cZ (O8 m) s
def WAj:WAt:=MAx zi AsP Avm qF zk Yg cO cZ (O8 AY)
def JBV:AwF:=fy u3 WAj Afd Afe [DBV,fZ,DAx,AZL,GBV,ZAi,JAx,LAx] Tryz.func105 IBV Xh MAx O8 [0]
def NAx (b:fA) (L:WAt) (c:AwJ):NAh:=fun J a=>mk (cond (!(Js a)) ((b (Ia J) 4).bind fun h=>cond (!h.1) (some (⟨⟨0,0,0,0,IK,false,false⟩,false,[],true⟩,Ia h.2,a)) ((L (Ia h.2) a.AX ⟨#[119]⟩).bind fun d=>cond (Arf (Qd (Aw2 a))) (cond (d.1.Au == 11) ((b (Ia d.2) 2).bind fun i=>cond i.1 ((c (Ia i.2) (Qd (Aw2 a))).bind fun f=>cond (Avx f.1 (Qd (Aw2 a))) ((b (Ia f.2) 12).bind fun j=>cond j.1 ((c (Ia j.2) 2000).bind fun t=>(c (Ia t.2) 50).bind fun u=>NP b u.2 ⟨⟨0,0,0,0,IK,false,false⟩,false,[],true⟩ a ⟨TAU d a f,true,[t.1,u.1],false⟩) (NP b j.2 ⟨⟨0,0,0,0,IK,false,false⟩,false,[],true⟩ a ⟨TAU d a f,false,[],false⟩)) none) ((b (Ia i.2) 12).bind fun l=>cond l.1 ((c (Ia l.2) 2000).bind fun v=>(c (Ia v.2) 50).bind fun w=>NP b w.2 ⟨⟨0,0,0,0,IK,false,false⟩,false,[],true⟩ a ⟨d.1,true,[v.1,w.1],false⟩) (NP b l.2 ⟨⟨0,0,0,0,IK,false,false⟩,false,[],true⟩ a ⟨d.1,false,[],false⟩))) ((b (Ia d.2) 12).bind fun m=>cond m.1 ((c (Ia m.2) 2000).bind fun x=>(c (Ia x.2) 50).bind fun y=>NP b y.2 ⟨⟨0,0,0,0,IK,false,false⟩,false,[],true⟩ a ⟨d.1,true,[x.1,y.1],false⟩) (NP b m.2 ⟨⟨0,0,0,0,IK,false,false⟩,false,[],true⟩ a ⟨d.1,false,[],false⟩))) ((b (Ia d.2) 12).bind fun n=>cond n.1 ((c (Ia n.2) 2000).bind fun z=>(c (Ia z.2) 50).bind fun A=>NP b A.2 ⟨⟨0,0,0,0,IK,false,false⟩,false,[],true⟩ a ⟨d.1,true,[z.1,A.1],false⟩) (NP b n.2 ⟨⟨0,0,0,0,IK,false,false⟩,false,[],true⟩ a ⟨d.1,false,[],false⟩)))) ((L (Ia J) a.AX ⟨#[119]⟩).bind fun e=>cond (Arf (Qd (Aw2 a))) (cond (e.1.Au == 11) ((b (Ia e.2) 2).bind fun o=>cond o.1 ((c (Ia o.2) (Qd (Aw2 a))).bind fun g=>cond (Avx g.1 (Qd (Aw2 a))) ((b (Ia g.2) 12).bind fun p=>cond p.1 ((c (Ia p.2) 2000).bind fun B=>(c (Ia B.2) 50).bind fun C=>NP b C.2 ⟨⟨0,0,0,0,IK,false,false⟩,false,[],true⟩ a ⟨TAU e a g,true,[B.1,C.1],false⟩) (NP b p.2 ⟨⟨0,0,0,0,IK,false,false⟩,false,[],true⟩ a ⟨TAU e a g,false,[],false⟩)) none) ((b (Ia o.2) 12).bind fun q=>cond q.1 ((c (Ia q.2) 2000).bind fun D=>(c (Ia D.2) 50).bind fun E=>NP b E.2 ⟨⟨0,0,0,0,IK,false,false⟩,false,[],true⟩ a ⟨e.1,true,[D.1,E.1],false⟩) (NP b q.2 ⟨⟨0,0,0,0,IK,false,false⟩,false,[],true⟩ a ⟨e.1,false,[],false⟩))) ((b (Ia e.2) 12).bind fun r=>cond r.1 ((c (Ia r.2) 2000).bind fun F=>(c (Ia F.2) 50).bind fun G=>NP b G.2 ⟨⟨0,0,0,0,IK,false,false⟩,false,[],true⟩ a ⟨e.1,true,[F.1,G.1],false⟩) (NP b r.2 ⟨⟨0,0,0,0,IK,false,false⟩,false,[],true⟩ a ⟨e.1,false,[],false⟩))) ((b (Ia e.2) 12).bind fun s=>cond s.1 ((c (Ia s.2) 2000).bind fun H=>(c (Ia H.2) 50).bind fun I=>NP b I.2 ⟨⟨0,0,0,0,IK,false,false⟩,false,[],true⟩ a ⟨e.1,true,[H.1,I.1],false⟩) (NP b s.2 ⟨⟨0,0,0,0,IK,false,false⟩,false,[],true⟩ a ⟨e.1,false,[],false⟩))))
def tZ:NAh:=NAx Avm WAj AsP
def KBV:AwF:=BI u2 tZ Aff Afg [DAx,JBV,fZ] Tryz.func59 NAx [0, 64]
def OAx:Qj:=fun a b c=>mk (cond (Ej ((0+a.Bq.length)*8)) (cond (Ard a.Bq) (cond (LU (0+(Aw2 a).length)) (cond (Pn (Aw2 a)) (some ⟨a.AX,a.Bq++[b],(Aw2 a)++[c],a.Cm,a.CO⟩) none) none) none) none)
def Vj:Qj:=OAx
def PAx:AwF:=BI u3 Vj AVO VB [] Tryz.func78 OAx [0]
def BBF:fB:=fun a b=>some ([],a,b)
def rY:fB:=BBF
def RAW:AwF:=BI u2 rY AKr Oh [] Tryz.func182 BBF
def QAx:En:=fun a=>mk (cond (a<10) (some (w8 (Ad (48+a)))) (some (w8 (Ad ((Ad (97+a)) - 10)))))
def XAj:En:=QAx
def LBV:AwF:=BI u1 XAj FN Afh [] Tryz.func240 QAx
inductive SAW where
 |c0 (a:Int) (b:Bool) (d:AA)
def MBV:SAW->AsN
 |.c0 a b d=>(tdo Tryz.f184 992,[vi 0 a,vb 3 b,vs 4 d],[])
def RAx (b:En) (k:Aw7 SAW AA):CG:=fun a=>mk (cond (EF a) (some ⟨#[48]⟩) (k (.c0 a (Avd a) IK)))
def SAx (a:En) (k:Aw7 SAW AA):Aw7 SAW AA
 |.c0 c e b=>mk (cond (c != 0) (cond (Avd (c.tmod 10)) ((a (Ad (0 - (c.tmod 10)))).bind fun d=>cond (AwC (ofBytes [d]) b) (k (.c0 (Ad (c.tdiv 10)) e ((ofBytes [d])++b))) none) ((a (c.tmod 10)).bind fun f=>cond (AwC (ofBytes [f]) b) (k (.c0 (Ad (c.tdiv 10)) e ((ofBytes [f])++b))) none)) (cond e (AwZ (AwC (Awx ⟨#[45]⟩) b) (some ((Awx ⟨#[45]⟩)++b))) (some b)))
def yS:AzH SAW AA
 |0,_=>none
 |m+1,s=>SAx XAj (yS m) s
def iQ:CG:=RAx XAj (yS AY)
def CBF:AwF:=fy u1 iQ FN Cc [LBV] Tryz.func184 MBV SAx RAx yS
def DBF:fC:=fun a b=>some (a,0,b)
def rZ:fC:=DBF
def UAW:AwF:=BI u2 rZ Afi Oh [] Tryz.func183 DBF
inductive VAW where
 |c0 (a b:Int) (d:Ap)
def NBV:VAW->AsN
 |.c0 b d a=>(tdo Tryz.f185 208,[vi 1 b,vp 2 128,vi 5 d],[(128,.var [.str a.BO,.bool a.CZ,.BG 90 a.Bc.Ak,.str a.AU.Bv,li a.AU.DU,.BG 76 a.AU.AZ,li a.AU.BM,.str a.AU.Dh,li a.AU.fCount,.BG 127 a.BP,.BG 157 a.BD,li a.CW])])
def TAx (k:Aw7 VAW Int):JE:=fun b a=>k (.c0 a 0 b)
def YAj (k:Aw7 VAW Int):Aw7 VAW Int
 |.c0 c a b=>mk (cond (Ar5 a (He b)) (cond (AwT a (He b)) (cond ((Arb (Md b) a ⟨0,false⟩).fId == c) (some a) (k (.c0 c (Aw6 a) b))) none) AxI)
def iO:AzH VAW Int
 |0,_=>none
 |m+1,s=>YAj (iO m) s
def ZAj:JE:=TAx (iO AY)
def OBV:AwF:=fy u2 ZAj wU FN [] Tryz.func185 NBV YAj TAx iO
def UAx (d:fB) (e:RZ) (c:fC):AsE:=fun a f=>mk (cond ((NM a) == 3) (DY (d 3 ⟨#[108,111,99,107,101,100]⟩)) ((e f.fText).bind fun b=>cond (EU b (Ar8 a).Bv) (cond (EF (NM a)) (DY (c [] IK)) (DY (c [⟨2,IK,0,⟨0,0,false,false,false,false,IK,0⟩⟩] IK))) (some ([⟨2,IK,Aw6 (NM a),⟨0,0,false,false,false,false,IK,0⟩⟩],4,⟨#[119,111,114,100]⟩))))
def ADp:AsE:=UAx rY JC rZ
def PBV:AwF:=BI u2 ADp bM Oh [RAW,P5,UAW] Tryz.func186 UAx
def VAx (d:RZ):qh:=fun a b=>mk (cond (a == 1) ((d b).bind fun c=>some (⟨0,a,true,false,false,true,c,0⟩,true)) (cond (a == 2) ((d b).bind fun e=>some (⟨0,a,true,false,true,false,e,0⟩,true)) (cond (a == 3) (cond ((BF b)<=100) (some (⟨0,a,false,false,false,false,b,0⟩,true)) (some (⟨0,0,false,false,false,false,IK,0⟩,false))) (some (⟨0,0,false,false,false,false,IK,0⟩,false)))))
def BAk:qh:=VAx JC
def QBV:AwF:=BI u2 BAk AKr Yb [P5] Tryz.func187 VAx
def EBF:IAU:=fun a=>mk (some [⟨3,IK,0,a⟩])
def CAk:IAU:=EBF
def WAx:AwF:=BI u1 CAk S9 Afj [] Tryz.func241 EBF
def XAx (g:fB) (c:IAU) (d:CG) (e:fC):Y1:=fun b f a q=>mk (cond (!q) (DY (g 6 BAV)) (cond ((Aww (Ar8 b)) == 8) (DY (g 1 fK)) (cond ((Aqu b) == 1000) (DY (g 1 fK)) (cond (AqY a) (cond (Em a) ((c ⟨Awg b,Jb a,true,true,FK a,Ari a,Aqz a,a.fNext⟩).bind fun h=>(d (Awg b)).bind fun i=>DY (e h i)) ((c ⟨Awg b,Jb a,true,f.CX,FK a,Ari a,Aqz a,a.fNext⟩).bind fun j=>(d (Awg b)).bind fun l=>DY (e j l))) (cond (Em a) ((c ⟨Awg b,Jb a,f.CY,true,FK a,Ari a,Aqz a,a.fNext⟩).bind fun m=>(d (Awg b)).bind fun n=>DY (e m n)) ((c ⟨Awg b,Jb a,f.CY,f.CX,FK a,Ari a,Aqz a,a.fNext⟩).bind fun o=>(d (Awg b)).bind fun p=>DY (e o p)))))))
def tq:Y1:=XAx rY CAk iQ rZ
def FBF:AwF:=BI u4 tq AVP Oh [RAW,WAx,CBF,UAW] Tryz.func188 XAx
def YAx:XAt:=fun a b=>mk (some (EU a b))
def ZAx:XAt:=YAx
def RBV:AwF:=BI u2 ZAx KJ E8 [] Tryz.func203 YAx
def AJr (h:Yw) (i:Yx) (j:XAt) (l:Ro):LV:=fun c d a=>mk (cond ((BF a)<16) (LZ (IK,false)) (Eo (FAV a) ((h c d (BF (ZJ a))).bind fun b=>cond (!b.2) (LZ (IK,false)) ((i c d (ZJ a)).bind fun e=>Eo (GL (BF (ZJ a)) (BF a)) ((j e (Aqq a (BF (ZJ a)))).bind fun f=>cond (!f) (LZ (IK,false)) ((l (ZJ a) b.1).bind fun g=>LZ (g,true)))))))
def iR:LV:=AJr zT zV ZAx zU
def GBF:AwF:=BI u3 iR VA IQ [SBE,UBE,RBV,TBE] Tryz.func141 AJr
inductive XAW where
 |c0 (a:AA) (b d:Int) (e f:Int)
def SBV:XAW->AsN
 |.c0 a b d e f=>(tdo Tryz.f201 2000,[vs 0 a,vi 1 b,vi 7 d,vi 8 e,vi 9 f],[])
def zl (d:AwU) (e:CG) (k:Aw7 XAW (Int×Int×Bool)):Qo:=fun c a=>mk ((d a 0 (BF c)).bind fun b=>cond (!b) (some (0,0,false)) (k (.c0 c a 0 1 a)))
def DAk (a:AwU) (b:CG) (k:Aw7 XAW (Int×Int×Bool)):Aw7 XAW (Int×Int×Bool)
 |.c0 d f g e c=>mk (cond (MZ c (BF d)) (cond (MZ c (Ad (f+5))) (cond (Avx c (BF d)) (cond (Avx c (BF d)) (cond ((bt d c)<128) (cond ((Aw3 g (Ad (((Avb d c).tmod 128)*e))) > 1000000000) (some (0,0,false)) ((b (Aw3 g (Ad (((Avb d c).tmod 128)*e)))).bind fun h=>cond (Kq f (Aw6 c) (BF d)) (cond (!(EU h (d.extract (BN f) (Ol c)))) (some (0,0,false)) (some (Aw3 g (Ad (((Avb d c).tmod 128)*e)),Aw6 c,true))) none)) (k (.c0 d f (Aw3 g (Ad (((Avb d c).tmod 128)*e))) (Ad (e*128)) (Aw6 c)))) none) none) (some (0,0,false))) (some (0,0,false)))
def ArH:AzH XAW (Int×Int×Bool)
 |0,_=>none
 |m+1,s=>DAk Je Qg (ArH m) s
def RS:Qo:=zl Je Qg (ArH AY)
def BAy:AwF:=fy u2 RS Q9 AVQ [JV,ZN] Tryz.func201 SBV DAk zl ArH
def CAy (f:LV) (g:Qo) (h:Avv):Avv:=fun d e=>mk ((f d 0 e).bind fun b=>(g b.1 0).bind fun a=>cond (!b.2) (LZ (IK,false)) (cond (!a.2.2) (LZ (IK,false)) (cond (Ny a.1 (AqZ (BF b.1) a.2.1)) (LZ (IK,false)) (Eo (Kq a.2.1 (Aw3 a.2.1 a.1) (BF b.1)) ((h d (ArD b.1 a.2.1 (a.2.1+a.1))).bind fun c=>cond (!c.2) (LZ (IK,false)) (cond (!(EU c.1 e)) (LZ (IK,false)) (LZ (ArD b.1 a.2.1 (a.2.1+a.1),true))))))))
def EAk:Avv:=CAy iR RS cZ
def TBV:AwF:=BI u2 EAk KJ IQ [GBF,BAy,LAx] Tryz.func242 CAy
def FAk (c:Qo):Y2:=fun a=>(c a.fText a.ER).bind fun b=>cond a.I7 (some (0,⟨a.fText,a.ER,true⟩)) (cond (!b.2.2) (some (0,⟨a.fText,a.ER,true⟩)) (some (b.1,⟨a.fText,b.2.1,a.I7⟩)))
def Yo:Y2:=FAk RS
def DAy:AwF:=BI u1 Yo AKs AVR [BAy] Tryz.func208 FAk [0]
def GAk:JAU:=fun a b=>mk (cond a.I7 (some (IK,⟨a.fText,a.ER,true⟩)) (cond (Ny b (AqZ (BF a.fText) a.ER)) (some (IK,⟨a.fText,a.ER,true⟩)) (cond (Kq (AqZ (Aw3 a.ER b) b) (Aw3 a.ER b) (BF a.fText)) (some (a.fText.extract (AxJ ((Aw3 a.ER b) - b)) (AxJ (a.ER+b)),⟨a.fText,Aw3 a.ER b,a.I7⟩)) none)))
def AsJ:JAU:=GAk
def EAy:AwF:=BI u2 AsJ Afk AVS [] Tryz.func207 GAk [0]
def HAk (b:JAU):Y2:=fun c=>mk ((b c 1).bind fun a=>cond a.2.I7 (some (0,a.2)) (cond (VI Qa (BF a.1)) (some (Ad (bt a.1 0),a.2)) none))
def SY:Y2:=HAk AsJ
def HBF:AwF:=BI u1 SY AKs AVR [EAy] Tryz.func206 HAk [0]
def IAk (c:Y2) (e:JAU):YAt:=fun d=>(c d).bind fun a=>(e a.2 a.1).bind fun b=>some (b.1,b.2)
def qH:YAt:=IAk Yo AsJ
def UBV:AwF:=BI u1 qH AKs AVS [DAy,EAy] Tryz.func257 IAk [0]
def JAk (g i:Y2) (j:YAt) (l:Awt):Y3:=fun h=>mk ((g ⟨h,0,false⟩).bind fun b=>(i b.2).bind fun c=>(i c.2).bind fun a=>(j a.2).bind fun d=>(g d.2).bind fun e=>(l ⟨b.1,c.1,ArT a.1,ArT (Qh a.1),ArT (ZL a.1),ArT (Ad (Pq a.1)),d.1,e.1⟩).bind fun f=>cond e.2.I7 (some (⟨0,0,false,false,false,false,IK,0⟩,false)) (cond (!f.2) (some (⟨0,0,false,false,false,false,IK,0⟩,false)) (cond (!(EU f.1 h)) (some (⟨0,0,false,false,false,false,IK,0⟩,false)) (some (⟨b.1,c.1,ArT a.1,ArT (Qh a.1),ArT (ZL a.1),ArT (Ad (Pq a.1)),d.1,e.1⟩,true)))))
def WG:Y3:=JAk Yo SY qH Yg
def IBF:AwF:=BI u1 WG Cc Yb [DAy,HBF,UBV,ZAi] Tryz.func209 JAk
def JBF:qj:=fun a=>mk (some ⟨0,Jb a,AqY a,Em a,false,Ari a,Aqz a,0⟩)
def FAy:qj:=JBF
def VBV:AwF:=BI u1 FAy S9 S9 [] Tryz.func243 JBF
def GAy (h:Avl) (i:Avv) (j:Y3) (l:qj) (g:Y1):AsE:=fun a c=>mk ((h a).bind fun f=>(i f c.fText).bind fun b=>(j b.1).bind fun d=>(l d.1).bind fun e=>cond b.2 (DY (g a c e d.2)) (DY (g a c e false)))
def KAk:AsE:=GAy cO EAk WG FAy tq
def WBV:AwF:=BI u2 KAk bM Oh [JAx,TBV,IBF,VBV,FBF] Tryz.func189 GAy
def HAy (d:OD):ql:=fun a b=>mk ((d a).bind fun c=>Aws (!c) (some false) (Aws (b == 1) (some (!(AqY a))) (Aws (b == 2) (Aws (!(Em a)) (some ((Jb a) != 2)) (some false)) (Aws (b == 3) (some (FK a)) (Aws (b == 4) (some (Ari a)) (some (b == 5)))))))
def LAk:ql:=HAy WS
def XBV:AwF:=BI u2 LAk AVT E8 [QAV] Tryz.func244 HAy
inductive ZAW where
 |c0 (a:Int) (b:Ap) (d:Af)
def YBV:ZAW->AsN
 |.c0 d a b=>(tdo Tryz.f193 208,[vp 2 128,vp 3 192,vi 5 d],[(128,.var [.str a.BO,.bool a.CZ,.BG 90 a.Bc.Ak,.str a.AU.Bv,li a.AU.DU,.BG 76 a.AU.AZ,li a.AU.BM,.str a.AU.Dh,li a.AU.fCount,.BG 127 a.BP,.BG 157 a.BD,li a.CW]),(192,.var [li b.fId,li b.Aj,.bool b.CY,.bool b.CX,.bool b.Gw,.bool b.GH,.str b.fValue,li b.fNext])])
def IAy (k:Aw7 ZAW Int):OAh:=fun a b=>k (.c0 0 a b)
def MAk (k:Aw7 ZAW Int):Aw7 ZAW Int
 |.c0 a b c=>mk (cond (Ar5 a (L8 b)) (cond (AwT a (L8 b)) (cond ((NK (ArI b) a).fId == c.fId) (cond (AwT a (L8 b)) (some (NK (ArI b) a).fNext) none) (k (.c0 (Aw6 a) b c))) none) (some c.fNext))
def iW:AzH ZAW Int
 |0,_=>none
 |m+1,s=>MAk (iW m) s
def uI:OAh:=IAy (iW AY)
def KBF:AwF:=fy u2 uI Afl FN [] Tryz.func193 YBV MAk IAy iW
def JAy (c:CG):VK:=fun b d=>mk ((c d).bind fun a=>AwZ (AwC b a) (AwZ (AwC (b++a) rX) (some ((b++a)++rX))))
def NAk:VK:=JAy J9
def ZBV:AwF:=BI u2 NAk Q9 Cc [XL] Tryz.func313 JAy
def KAy (b:RZ):RZ:=fun c=>mk ((b c).bind fun a=>AwZ ((AwQ Qa Aw9) && (decide (4<=(BF a)))) (some (Arz a Aw9)))
def PE:RZ:=KAy JC
def BAX:AwF:=BI u1 PE Cc Cc [P5] Tryz.func371 KAy
inductive CAX where
 |c0 (a:AA) (b d:Int) (e:(List AA))
def AmK:CAX->AsN
 |.c0 a b d e=>(tdo Tryz.f346 464,[vs 0 a,vi 1 b,vo 5 368,vi 6 d],[(368,.sl 9 e)])
def LAy (c:CG) (d:RZ) (k:Aw7 CAX (List AA)):AwH:=fun a b=>k (.c0 a b 0 [])
def OAk (a:CG) (b:RZ) (k:Aw7 CAX (List AA)):Aw7 CAX (List AA)
 |.c0 d h f g=>mk (cond (f<10) ((a h).bind fun c=>cond (AwC d c) ((a f).bind fun e=>cond (ArC d c e) (cond (AwC ((d++c)++e) (Awx ⟨#[111]⟩)) ((b (((d++c)++e)++(Awx ⟨#[111]⟩))).bind fun i=>cond (Pn g) (k (.c0 d h (Aw6 f) (g++[i]))) none) none) none) none) (some g))
def Zo:AzH CAX (List AA)
 |0,_=>none
 |m+1,s=>OAk J9 PE (Zo m) s
def iY:AwH:=LAy J9 PE (Zo AY)
def LBF:AwF:=fy u2 iY Q9 VD [XL,BAX] Tryz.func346 AmK OAk LAy Zo
inductive DAX where
 |c0 (a:AA) (b d:Int) (e f g:Int)
def BBW:DAX->AsN
 |.c0 a b d e f g=>(tdo Tryz.f370 208,[vs 0 a,vi 1 b,vi 2 d,vi 3 e,vi 4 f,vi 11 g],[])
def MAy (f:CG) (g:RZ) (k:Aw7 DAX AA):Rf:=fun a b c d e=>k (.c0 a b c d e 0)
def PAk (a:CG) (b:RZ) (k:Aw7 DAX AA):Aw7 DAX AA
 |.c0 g i j l h e=>mk (cond (MZ e h) (cond (e<15) ((a i).bind fun c=>(a j).bind fun d=>cond (AwC c d) ((a (Aw3 (l.tmod 256) e)).bind fun f=>cond (ArC c d f) (cond (ArC (c++d) f g) ((b (((c++d)++f)++g)).bind fun m=>k (.c0 m i j l h (Aw6 e))) none) none) none) (some g)) (some g))
def iZ:AzH DAX AA
 |0,_=>none
 |m+1,s=>PAk J9 PE (iZ m) s
def Zq:Rf:=MAy J9 PE (iZ AY)
def MBF:AwF:=fy u5 Zq AVU Cc [XL,BAX] Tryz.func370 BBW PAk MAy iZ
inductive EAX where
 |c0 (a:(List AA)) (b:Int) (d:AA) (e:Int)
def CBW:EAX->AsN
 |.c0 a b d e=>(tdo Tryz.f368 976,[vr 0 9 a,vi 1 b,vs 5 d,vi 6 e],[])
def NAy (c:Rf) (d:RZ) (k:Aw7 EAX AA):Y4:=fun a b=>mk (cond ((Qd a) != 10) Rn (k (.c0 a b IK 0)))
def QAk (a:Rf) (b:RZ) (k:Aw7 EAX AA):Aw7 EAX AA
 |.c0 d g f c=>mk (cond (c<10) (cond (OJ c d) ((a (Ig d c IK) g c 0 15).bind fun e=>cond (AwC f e) (k (.c0 d g (f++e) (Aw6 c))) none) none) (Awi (b f)))
def ig:AzH EAX AA
 |0,_=>none
 |m+1,s=>QAk Zq PE (ig m) s
def uK:Y4:=NAy Zq PE (ig AY)
def DBW:AwF:=fy u2 uK wV Cc [MBF,BAX] Tryz.func368 CBW QAk NAy ig
inductive GAX where
 |c0 (a:AA) (b:Int) (d:(List AA))
def EBW:GAX->AsN
 |.c0 a b d=>(tdo Tryz.f344 464,[vs 0 a,vo 3 240,vi 4 b],[(240,.sl 9 d)])
def OAy (b:AwH) (c:Y4) (k:Aw7 GAX (List AA)):Y5:=fun a=>k (.c0 a 0 [])
def RAk (a:AwH) (b:Y4) (k:Aw7 GAX (List AA)):Aw7 GAX (List AA)
 |.c0 f c d=>mk (cond (c<4) ((a f c).bind fun e=>(b e c).bind fun g=>cond (Pn d) (k (.c0 f (Aw6 c) (d++[g]))) none) (some d))
def iw:AzH GAX (List AA)
 |0,_=>none
 |m+1,s=>RAk iY uK (iw m) s
def uM:Y5:=OAy iY uK (iw AY)
def NBF:AwF:=fy u1 uM Cc VD [LBF,DBW] Tryz.func344 EBW RAk OAy iw
def PAy (e:CG) (h:RZ):Y6:=fun f g c d=>mk ((e f).bind fun a=>(e g).bind fun b=>AwZ (AwC a b) (AwZ (ArC a b c) (AwZ (ArC (a++b) c d) (AwZ (AwC (((a++b)++c)++d) (Awx ⟨#[110]⟩)) (Awi (h ((((a++b)++c)++d)++(Awx ⟨#[110]⟩))))))))
def Xl:Y6:=PAy J9 PE
def FBW:AwF:=BI u4 Xl AVV Cc [XL,BAX] Tryz.func381 PAy
inductive IAX where
 |c0 (a:Int) (b:(List AA)) (d:Int) (e:(List AA))
def GBW:IAX->AsN
 |.c0 a b d e=>(tdo Tryz.f367 464,[vi 0 a,vr 1 9 b,vo 5 368,vi 6 d],[(368,.sl 9 e)])
def SAk (c:Y6) (k:Aw7 IAX (List AA)):Rh:=fun a b=>k (.c0 a b 0 [])
def uQ (a:Y6) (k:Aw7 IAX (List AA)):Aw7 IAX (List AA)
 |.c0 f c b d=>mk (cond (MZ (Avo b) (Qd c)) (cond (Avx (Ad (2*b)) (Qd c)) (cond (Avx (Avo b) (Qd c)) ((a f b (c.getD (AxJ (2*b)) (Awx IK)) (Ig c (Avo b) IK)).bind fun e=>cond (Pn d) (k (.c0 f c (Aw6 b) (d++[e]))) none) none) none) (some d))
def Xm:AzH IAX (List AA)
 |0,_=>none
 |m+1,s=>uQ Xl (Xm m) s
def Vm:Rh:=SAk Xl (Xm AY)
def OBF:AwF:=fy u2 Vm AVW VD [FBW] Tryz.func367 GBW uQ SAk Xm
inductive KAX where
 |c0 (a:(List AA)) (b:Int)
 |c1 (b:Int) (a:(List AA))
def HBW:KAX->AsN
 |.c0 a b=>(tdo Tryz.f343 464,[vr 0 9 a,vi 3 b],[])
 |.c1 b a=>(tdo Tryz.f343 464,[vo 0 48,vi 3 b],[(48,.sl 9 a)])
def QAy (b:Rh) (k:Aw7 KAX AA):qm:=fun a=>mk (cond ((Qd a) != 4) Rn (k (.c0 a 1)))
def TAk (a:Rh) (k:Aw7 KAX AA):Aw7 KAX AA
 |.c0 d b=>mk (cond (b<=2) ((a b d).bind fun c=>k (.c1 (Aw6 b) c)) (EAV d))
 |.c1 b d=>mk (cond (b<=2) ((a b d).bind fun c=>k (.c1 (Aw6 b) c)) (EAV d))
def iy:AzH KAX AA
 |0,_=>none
 |m+1,s=>TAk Vm (iy m) s
def UAk:qm:=QAy Vm (iy AY)
def IBW:AwF:=fy u1 UAk AVX Cc [OBF] Tryz.func343 HBW TAk QAy iy
def RAy (b:Y5) (d:qm):RZ:=fun c=>mk ((b c).bind fun a=>Awi (d a))
def uT:RZ:=RAy uM UAk
def PBF:AwF:=BI u1 uT Cc Cc [NBF,IBW] Tryz.func314 RAy
inductive jA where
 |c0 (a:AA) (b d:Int) (e:(List Int))
def JBW:jA->AsN
 |.c0 a b d e=>(tdo Tryz.f369 2000,[vs 3 a,vo 4 304,vi 5 b,vi 6 d],[(304,.sl 3 e)])
def SAy (b:RZ) (k:Aw7 jA (List Int)):H6:=fun c=>(b c).bind fun a=>k (.c0 a 0 0 [])
def VAk (a:RZ) (k:Aw7 jA (List Int)):Aw7 jA (List Int)
 |.c0 c e b d=>mk (cond (b<4) (cond (Avx b (BF c)) (cond (Avx b (BF c)) (cond (Ej ((d.length+2)*8)) (cond (Avx b (BF c)) (cond (Avx b (BF c)) (k (.c0 c (AqZ (AqZ (Ad (e+30)) (fU (Avb c b))) ((Avb c b).tmod 16)) (Aw6 b) (d++[fU (Avb c b),(Avb c b).tmod 16]))) none) none) none) none) none) (Arv (Ej ((d.length+2)*8)) (Ld (d++[fU e,e.tmod 16]))))
def Zu:AzH jA (List Int)
 |0,_=>none
 |m+1,s=>VAk PE (Zu m) s
def uU:H6:=SAy PE (Zu AY)
def KBW:AwF:=fy u1 uU Cc JZ [BAX] Tryz.func369 JBW VAk SAy Zu
inductive jC where
 |c0 (a:(List AA)) (b d:Int) (e:(List AA)) (f:(List Int))
def LBW:jC->AsN
 |.c0 a b d e f=>(tdo Tryz.f345 2000,[vr 0 9 a,vi 1 b,vo 7 496,vo 8 560,vi 9 d],[(496,.sl 9 e),(560,.sl 3 f)])
def TAy (c:H6) (f:Rf) (k:Aw7 jC (List AA)):qo:=fun a e d=>mk (cond ((Qd a) != 10) (some []) ((c d).bind fun b=>k (.c0 a e 0 [] b)))
def UAy (a:H6) (b:Rf) (k:Aw7 jC (List AA)):Aw7 jC (List AA)
 |.c0 d h c f e=>mk (cond (c<10) (cond (OJ c d) (cond (AsI c e) ((b (Ig d c IK) h c 0 (Arn e c)).bind fun g=>cond (Pn f) (k (.c0 d h (Aw6 c) (f++[g]) e)) none) none) none) (some f))
def uY:AzH jC (List AA)
 |0,_=>none
 |m+1,s=>UAy uU Zq (uY m) s
def WAk:qo:=TAy uU Zq (uY AY)
def MBW:AwF:=fy u3 WAk AVY VD [KBW,MBF] Tryz.func345 LBW UAy TAy uY
inductive OAX where
 |c0 (a:(List AA)) (b d:Int) (e:(List AA))
 |c1 (b d:Int) (a e:(List AA))
def NBW:OAX->AsN
 |.c0 a b d e=>(tdo Tryz.f347 976,[vr 0 9 a,vi 1 b,vo 5 368,vi 6 d],[(368,.sl 9 e)])
 |.c1 b d a e=>(tdo Tryz.f347 976,[vo 0 48,vi 1 b,vo 5 368,vi 6 d],[(48,.sl 9 a),(368,.sl 9 e)])
def VAy (d:AwU) (e:Rh) (k:Aw7 OAX (List AA)):qp:=fun a c=>mk (cond ((Qd a) != 4) (some []) ((d c 0 3).bind fun b=>cond (!b) (some []) (k (.c0 a c 1 []))))
def XAk (a:AwU) (b:Rh) (k:Aw7 OAX (List AA)):Aw7 OAX (List AA)
 |.c0 d c e f=>mk (cond (e<=2) (cond (ArT c) (cond (Avx (Awm c) (Qd d)) (cond (Pn f) ((b e d).bind fun g=>k (.c1 (Qh c) (Aw6 e) g (f++[d.getD (AxJ (c - 1)) (Awx IK)]))) none) none) (cond (Avx (Aw6 c) (Qd d)) (cond (Pn f) ((b e d).bind fun h=>k (.c1 (Qh c) (Aw6 e) h (f++[Ig d (Aw6 c) IK]))) none) none)) (some f))
 |.c1 c e d f=>mk (cond (e<=2) (cond (ArT c) (cond (Avx (Awm c) (Qd d)) (cond (Pn f) ((b e d).bind fun g=>k (.c1 (Qh c) (Aw6 e) g (f++[d.getD (AxJ (c - 1)) (Awx IK)]))) none) none) (cond (Avx (Aw6 c) (Qd d)) (cond (Pn f) ((b e d).bind fun h=>k (.c1 (Qh c) (Aw6 e) h (f++[Ig d (Aw6 c) IK]))) none) none)) (some f))
def uZ:AzH OAX (List AA)
 |0,_=>none
 |m+1,s=>XAk Je Vm (uZ m) s
def YAk:qp:=VAy Je Vm (uZ AY)
def OBW:AwF:=fy u2 YAk wV VD [JV,OBF] Tryz.func347 NBW XAk VAy uZ
def WAy (h:AwU) (i:AwH) (j:qo) (m:Y5) (n:qp):qw:=fun d a l=>mk ((h a 0 3).bind fun b=>cond (!b) (some (fP,false)) ((i d a).bind fun c=>(j c a l).bind fun e=>(m d).bind fun f=>(n f a).bind fun g=>some (⟨a,e,g⟩,true)))
def uf:qw:=WAy Je iY WAk uM YAk
def PBW:AwF:=BI u3 uf VA AVZ [JV,LBF,MBW,NBF,OBW] Tryz.func315 WAy
def XAy (i:AwU) (j:VK) (l:RZ) (g:qw):qx:=fun c a m=>mk ((i a 0 15).bind fun e=>cond (!e) (some (⟨fP,IK,fP⟩,false)) ((j c (ZL a)).bind fun b=>(l b).bind fun d=>(g b (a.tmod 4) m).bind fun f=>cond (AwC c AxA) ((g (c++AxA) (ZL a) d).bind fun h=>some (⟨h.1,d,f.1⟩,true)) none))
def ZAk:qx:=XAy Je NAk uT uf
def QBW:AwF:=BI u3 ZAk VA AVa [JV,ZBV,PBF,PBW] Tryz.func275 XAy
inductive Zw where
 |c0 (b:Int) (a:IL)
 |c1 (d:Int) (a:IL)
def RBW:Zw->AsN
 |.c0 b a=>(tdo Tryz.f38 464,[vp 1 64,vi 3 b],[(64,.var [li a.Dv,.BG 9 a.Fg,.BG 9 a.Gn])])
 |.c1 d a=>(tdo Tryz.f38 976,[vp 1 64,vi 4 d],[(64,.var [li a.Dv,.BG 9 a.Fg,.BG 9 a.Gn])])
def YAy (c:AwU) (k:Aw7 Zw Bool):Y7:=fun a=>mk ((c a.Dv 0 3).bind fun b=>cond (!b) (some false) (cond ((Qd a.Fg) != 10) (some false) (cond ((Qd a.Gn) != 2) (some false) (k (.c0 0 a)))))
def uh (a:AwU) (k:Aw7 Zw Bool):Aw7 Zw Bool
 |.c0 c b=>mk (cond (MZ c (Qd b.Fg)) (cond (OJ c b.Fg) (cond ((BF (Ig b.Fg c IK)) != 4) (some false) (k (.c0 (Aw6 c) b))) none) (k (.c1 0 b)))
 |.c1 b c=>mk (cond (MZ b (Qd c.Gn)) (cond (OJ b c.Gn) (cond ((BF (Ig c.Gn b IK)) != 4) (some false) (k (.c1 (Aw6 b) c))) none) (some true))
def Vo:AzH Zw Bool
 |0,_=>none
 |m+1,s=>uh Je (Vo m) s
def ug:Y7:=YAy Je (Vo AY)
def SBW:AwF:=fy u1 ug AEo E8 [JV] Tryz.func38 RBW uh YAy Vo
inductive Zx where
 |c0 (a:AA) (d:Int) (b:IL)
 |c1 (a:AA) (e:Int) (b:IL)
def TBW:Zx->AsN
 |.c0 b d a=>(tdo Tryz.f316 976,[vp 1 64,vs 4 b,vi 5 d],[(64,.var [li a.Dv,.BG 9 a.Fg,.BG 9 a.Gn])])
 |.c1 b e a=>(tdo Tryz.f316 2000,[vp 1 64,vs 4 b,vi 6 e],[(64,.var [li a.Dv,.BG 9 a.Fg,.BG 9 a.Gn])])
def ZAy (d:Y7) (e:CG) (k:Aw7 Zx (AA×Bool)):qy:=fun a=>mk ((d a).bind fun b=>cond (!b) (LZ (IK,false)) ((e a.Dv).bind fun c=>k (.c0 c 0 a)))
def jG (a:Y7) (b:CG) (k:Aw7 Zx (AA×Bool)):Aw7 Zx (AA×Bool)
 |.c0 e c d=>mk (cond (c<10) (cond (OJ c d.Fg) (cond (AwC e (Ig d.Fg c IK)) (k (.c0 (e++(Ig d.Fg c IK)) (Aw6 c) d)) none) none) (k (.c1 e 0 d)))
 |.c1 e c d=>mk (cond (TR c) (cond (OJ c d.Gn) (cond (AwC e (Ig d.Gn c IK)) (k (.c1 (e++(Ig d.Gn c IK)) (Aw6 c) d)) none) none) (LZ (e,true)))
def UW:AzH Zx (AA×Bool)
 |0,_=>none
 |m+1,s=>jG ug J9 (UW m) s
def AEE:qy:=ZAy ug J9 (UW AY)
def UBW:AwF:=fy u1 AEE AEo IQ [SBW,XL] Tryz.func316 TBW jG ZAy UW
def ALC (d:qy):rC:=fun a=>mk ((d a.QU).bind fun b=>(d a.QV).bind fun c=>cond (!b.2) (LZ (IK,false)) (cond (!c.2) (LZ (IK,false)) (cond ((BF a.QS) != 4) (LZ (IK,false)) (Eo (AwC b.1 a.QS) (Eo (AwC (b.1++a.QS) c.1) (LZ ((b.1++a.QS)++c.1,true)))))))
def BAl:rC:=ALC AEE
def VBW:AwF:=BI u1 BAl AVb IQ [UBW] Tryz.func276 ALC
def BAz (i:OAh) (l:fB) (m:qx) (o:rC) (g:IAU) (d:fC):Ri:=fun j n a=>mk ((i j a).bind fun b=>cond (b == 16) (DY (l 1 fK)) ((m (Aqz a) b n.fText).bind fun e=>(o e.1).bind fun c=>cond (b == a.fNext) (cond ((Ad (a.fNext+3)) > 16) ((g ⟨a.fId,Jb a,AqY a,Em a,FK a,Ari a,Aqz a,16⟩).bind fun f=>DY (d f c.1)) ((g ⟨a.fId,Jb a,AqY a,Em a,FK a,Ari a,Aqz a,Ad (a.fNext+3)⟩).bind fun h=>DY (d h c.1))) (DY (d [] c.1))))
def CAl:Ri:=BAz uI rY ZAk BAl CAk rZ
def WBW:AwF:=BI u3 CAl AEp Oh [KBF,RAW,QBW,VBW,WAx,UAW] Tryz.func245 BAz
inductive TAX where
 |c0 (a:AA) (b:Int) (d:(List Int))
 |c1 (a:AA) (b e f:Int) (d:(List Int))
def XBW:TAX->AsN
 |.c0 a b d=>(tdo Tryz.f382 464,[vs 0 a,vo 3 240,vi 4 b],[(240,.sl 274 d)])
 |.c1 a b e f d=>(tdo Tryz.f382 119376,[vs 0 a,vo 3 240,vi 4 b,(5,[.one (.int .u64 e)]),vi 6 f],[(240,.sl 274 d)])
def CAz (k:Aw7 TAX (List Int)):H6:=fun a=>k (.c0 a 0 [])
def um (k:Aw7 TAX (List Int)):Aw7 TAX (List Int)
 |.c0 b a c=>mk (cond (AwQ (Ad (a+8)) (BF b)) (k (.c1 b a 0 7 c)) (Ld c))
 |.c1 c b e a d=>mk (cond (JF a) (cond (Avx (Aw3 b a) (BF c)) (k (.c1 c b (Avw ((Avw (e*256))+(Avw (bt c (Aw3 b a))))) (Awm a) d)) none) (cond (Ard d) (k (.c0 c (Ad (b+8)) (d++[e]))) none))
def Xn:AzH TAX (List Int)
 |0,_=>none
 |m+1,s=>um (Xn m) s
def jH:H6:=CAz (Xn AY)
def QBF:AwF:=fy u1 jH Cc wW [] Tryz.func382 XBW um CAz Xn
inductive VAX where
 |c0 (a b d:Int) (e:(List Int))
def YBW:VAX->AsN
 |.c0 a b d e=>(tdo Tryz.f387 2000,[vo 1 112,vi 2 a,vi 3 b,vi 4 d],[(112,.sl 3 e)])
def RBF (k:Aw7 VAX (List Int)):AsG:=mk (k (.c0 1 0 0 (Qp (25:Int))))
def SBF (k:Aw7 VAX (List Int)):Aw7 VAX (List Int)
 |.c0 c b a d=>mk (cond (a<24) (cond (Awe (Aqp c b) d) (k (.c0 b (fV c b) (Aw6 a) (d.set (AxJ (Aqp c b)) ((Qh (Ad ((Aw6 a)*(Ad (a+2))))).tmod 64)))) none) (Ld d))
def DAz:AzH VAX (List Int)
 |0,_=>none
 |m+1,s=>SBF (DAz m) s
def DAl:AsG:=RBF (DAz AY)
def ZBW:AwF:=fy u0 DAl Yc JZ [] Tryz.func387 YBW SBF RBF DAz
inductive WAX where
 |c0 (a b:Int) (d:(List Int))
 |c1 (a b:Int) (e f g:Int) (d:(List Int))
def Amk:WAX->AsN
 |.c0 a b d=>(tdo Tryz.f388 976,[vo 1 112,vi 2 a,vi 3 b],[(112,.sl 274 d)])
 |.c1 a b e f g d=>(tdo Tryz.f388 500944,[vo 1 112,vi 2 a,vi 3 b,(4,[.one (.int .u64 e)]),(5,[.one (.int .u64 f)]),vi 6 g],[(112,.sl 274 d)])
def EAz (k:Aw7 WAX (List Int)):AsG:=k (.c0 1 0 [])
def TBF (k:Aw7 WAX (List Int)):Aw7 WAX (List Int)
 |.c0 c a b=>mk (cond (a<24) (k (.c1 c a 0 1 0 b)) (Ld b))
 |.c1 b e f a d c=>mk (cond (d<7) (cond (ArT b) (cond ((Ad (b*2))>=256) (k (.c1 (LAi ((Ad (b*2)) - 256)) e (Avw (f+a)) (Avw ((Avw (a*a))*2)) (Aw6 d) c)) (k (.c1 (Ad (b*2)) e (Avw (f+a)) (Avw ((Avw (a*a))*2)) (Aw6 d) c))) (cond ((Ad (b*2))>=256) (k (.c1 (LAi ((Ad (b*2)) - 256)) e f (Avw ((Avw (a*a))*2)) (Aw6 d) c)) (k (.c1 (Ad (b*2)) e f (Avw ((Avw (a*a))*2)) (Aw6 d) c)))) (cond (Ard c) (k (.c0 b (Aw6 e) (c++[f]))) none))
def FAz:AzH WAX (List Int)
 |0,_=>none
 |m+1,s=>TBF (FAz m) s
def uq:AsG:=EAz (FAz AY)
def BBX:AwF:=fy u0 uq Yc wW [] Tryz.func388 Amk TBF EAz FAz
inductive YAX where
 |c0 (a b:Int) (d e:Int)
def CBX:YAX->AsN
 |.c0 a b d e=>(tdo Tryz.f390 464,[(0,[.one (.int .u64 a)]),vi 1 b,(5,[.one (.int .u64 d)]),vi 6 e],[])
def GAz (k:Aw7 YAX Int):Fe:=fun a b=>k (.c0 a b 1 0)
def EAl (k:Aw7 YAX Int):Aw7 YAX Int
 |.c0 b c a d=>mk (cond (MZ d c) (k (.c0 b c (Avw (a*2)) (Aw6 d))) (cond (EF c) (some b) (cond (!(EF a)) (cond (!(EF (Avw ((Avw ((9223372036854775808:Int).tdiv a))*2)))) (some (Avw ((Avw (b*a))+(Avw (b.tdiv (Avw ((Avw ((9223372036854775808:Int).tdiv a))*2))))))) none) none)))
def jJ:AzH YAX Int
 |0,_=>none
 |m+1,s=>EAl (jJ m) s
def jI:Fe:=GAz (jJ AY)
def DBX:AwF:=fy u2 jI AVc wX [] Tryz.func390 CBX EAl GAz jJ
inductive ZAX where
 |c0 (d e:(List Int)) (a j:Int) (f:(List Int))
 |c1 (d e:(List Int)) (a g:Int) (f b:(List Int))
 |c2 (d e:(List Int)) (a g:Int) (l n:Int) (f b:(List Int))
 |c3 (a h:Int) (b i:(List Int))
 |c4 (a h o:Int) (b i:(List Int))
def EBX:ZAX->AsN
 |.c0 d e a j f=>(tdo Tryz.f389 464,[vr 0 274 d,vr 1 3 e,(2,[.one (.int .u64 a)]),vo 7 496,vi 8 j],[(496,.sl 274 f)])
 |.c1 d e a g f b=>(tdo Tryz.f389 2000,[vr 0 274 d,vr 1 3 e,(2,[.one (.int .u64 a)]),vo 7 496,vo 9 624,vi 10 g],[(496,.sl 274 f),(624,.sl 274 b)])
 |.c2 d e a g l n f b=>(tdo Tryz.f389 256304,[vr 0 274 d,vr 1 3 e,(2,[.one (.int .u64 a)]),vo 7 496,vo 9 624,vi 10 g,(11,[.one (.int .u64 l)]),vi 12 n],[(496,.sl 274 f),(624,.sl 274 b)])
 |.c3 a h b i=>(tdo Tryz.f389 8144,[(2,[.one (.int .u64 a)]),vo 9 624,vo 13 880,vi 14 h],[(624,.sl 274 b),(880,.sl 274 i)])
 |.c4 a h o b i=>(tdo Tryz.f389 521360,[(2,[.one (.int .u64 a)]),vo 9 624,vo 13 880,vi 14 h,vi 15 o],[(624,.sl 274 b),(880,.sl 274 i)])
def HAz (d:Fe) (k:Aw7 ZAX (List Int)):PAh:=fun a b c=>k (.c0 a b c 0 [0,0,0,0,0])
def SA (a:Fe) (k:Aw7 ZAX (List Int)):Aw7 ZAX (List Int)
 |.c0 c e f b d=>mk (cond (b<5) (cond (AsI b c) (cond (Awe (b+5) c) (cond (Awe (b+10) c) (cond (Awe (b+15) c) (cond (Awe (b+20) c) (cond (AsI b d) (k (.c0 c e f (Aw6 b) (d.set (BN b) (Avw (Ii Awo (Avw (Ii Awo (Avw (Ii Awo (Avw (Ii Awo (Arn c b) (Ud c (b+5)))) (Ud c (b+10)))) (Ud c (b+15)))) (Ud c (b+20))))))) none) none) none) none) none) none) (k (.c1 c e f 0 d (Qp (25:Int)))))
 |.c1 g h e b c f=>mk (cond (b<5) (cond (Avx (Si (Ad (b+4))) (NZ c)) (cond (Avx (Si (Aw6 b)) (NZ c)) ((a (Arn c (Si (Aw6 b))) 1).bind fun d=>k (.c2 g h e b (Avw (Ii Awo (Arn c (Si (Ad (b+4)))) d)) 0 c f)) none) none) (k (.c3 e 0 f (Qp (25:Int)))))
 |.c2 d e i c h b j f=>mk (cond (b<5) (cond (Awe (Aqp c b) d) (cond (Awe (Aqp c b) e) ((a (Avw (Ii Awo (Ud d (Aqp c b)) h)) (Ud e (Aqp c b))).bind fun g=>cond (Awe (Aqp b (fV c b)) f) (k (.c2 d e i c h (Aw6 b) j (f.set (AxJ (Aqp b (fV c b))) g))) none) none) none) (k (.c1 d e i (Aw6 c) j f)))
 |.c3 d c e b=>mk (cond (c<5) (k (.c4 d c 0 e b)) (Arv (Av8 b) (Arv (Av8 b) (Ld (b.set (BN Qa) (Avw (Ii Awo (Arn b Qa) d)))))))
 |.c4 f c b d e=>mk (cond (b<5) (cond (Awe (Aqp c b) d) (cond (Awe ((Si (Aw6 c))+(Ad (5*b))) d) (cond (Awe ((Si (Ad (c+2)))+(Ad (5*b))) d) (cond (Awe (Aqp c b) e) (k (.c4 f c (Aw6 b) d (e.set (AxJ (Aqp c b)) (Avw (Ii Awo (Ud d (Aqp c b)) (Avw (Ot Awo (Avw (18446744073709551615 - (Ud d ((Si (Aw6 c))+(Ad (5*b)))))) (Ud d ((Si (Ad (c+2)))+(Ad (5*b))))))))))) none) none) none) none) (k (.c3 f (Aw6 c) d e)))
def Qq:AzH ZAX (List Int)
 |0,_=>none
 |m+1,s=>SA jI (Qq m) s
def uw:PAh:=HAz jI (Qq AY)
def FBX:AwF:=fy u3 uw Afm wW [DBX] Tryz.func389 EBX SA HAz Qq
inductive BAY where
 |c0 (a:Int) (b d e:(List Int))
def GBX:BAY->AsN
 |.c0 a b d e=>(tdo Tryz.f383 976,[vo 0 48,vo 3 240,vo 4 304,vi 5 a],[(48,.sl 274 b),(240,.sl 3 d),(304,.sl 274 e)])
def IAz (c d:AsG) (f:PAh) (k:Aw7 BAY (List Int)):FQ:=fun e=>c.bind fun a=>d.bind fun b=>k (.c0 0 e a b)
def JAz (a b:AsG) (c:PAh) (k:Aw7 BAY (List Int)):Aw7 BAY (List Int)
 |.c0 d g h e=>mk (cond (d<24) (cond (AsI d e) ((c g h (Arn e d)).bind fun f=>k (.c0 (Aw6 d) f h e)) none) (Ld g))
def vC:AzH BAY (List Int)
 |0,_=>none
 |m+1,s=>JAz DAl uq uw (vC m) s
def jM:FQ:=IAz DAl uq uw (vC AY)
def UBF:AwF:=fy u1 jM wW wW [ZBW,BBX,FBX] Tryz.func383 GBX JAz IAz vC
inductive EAY where
 |c0 (a:(List Int)) (b:Int) (d:(List Int))
 |c1 (a:(List Int)) (b e f:Int) (d:(List Int))
def HBX:EAY->AsN
 |.c0 a b d=>(tdo Tryz.f384 464,[vr 0 274 a,vo 3 240,vi 4 b],[(240,.sl 5 d)])
 |.c1 a b e f d=>(tdo Tryz.f384 59696,[vr 0 274 a,vo 3 240,vi 4 b,(5,[.one (.int .u64 e)]),vi 6 f],[(240,.sl 5 d)])
def KAz (k:Aw7 EAY AA):Ie:=fun a=>k (.c0 a 0 [])
def jP (k:Aw7 EAY AA):Aw7 EAY AA
 |.c0 b a c=>mk (cond (MZ a (NZ b)) (cond (AsI a b) (k (.c1 b a (Arn b a) 0 c)) none) (ArO c))
 |.c1 c d e b a=>mk (cond (b<8) (cond (NS a) (k (.c1 c d (Avw (e.tdiv 256)) (Aw6 b) (a++[w8 (e.tmod 256)]))) none) (k (.c0 c (Aw6 d) a)))
def Vq:AzH EAY AA
 |0,_=>none
 |m+1,s=>jP (Vq m) s
def jO:Ie:=KAz (Vq AY)
def VBF:AwF:=fy u1 jO Afn Cc [] Tryz.func384 HBX jP KAz Vq
inductive FAY where
 |c0 (a:Int) (b d:(List Int))
 |c1 (a e:Int) (b d:(List Int))
 |c2 (a e f:Int) (b d g:(List Int))
def IBX:FAY->AsN
 |.c0 a b d=>(tdo Tryz.f372 480,[vi 1 a,vo 7 496,vo 8 560],[(496,.sl 274 b),(560,.sl 5 d)])
 |.c1 a e b d=>(tdo Tryz.f372 4048,[vi 1 a,vo 7 496,vo 8 560,vi 9 e],[(496,.sl 274 b),(560,.sl 5 d)])
 |.c2 a e f b d g=>(tdo Tryz.f372 1036880,[vi 1 a,vo 7 496,vo 8 560,vi 9 e,vo 10 688,vi 11 f],[(496,.sl 274 b),(560,.sl 5 d),(688,.sl 274 g)])
def LAz (d:H6) (e:FQ) (f:Ie) (k:Aw7 FAY AA):rD:=fun a b c=>mk (cond (Pz a) (cond (NS (Aq6 a)) (k (.c0 b (Qp (25:Int)) ((Aq6 a)++[c]))) none) none)
def Xo (a:H6) (b:FQ) (c:Ie) (k:Aw7 FAY AA):Aw7 FAY AA
 |.c0 e f d=>mk (cond (!(EF e)) (cond (((NZ d).tmod e) != 0) (cond (NS d) (k (.c0 e f (d++[Qa]))) none) (cond (Awe ((NZ d) - 1) d) (cond (Awe ((NZ d) - 1) d) (k (.c1 e 0 f (VAu d))) none) none)) none)
 |.c1 f d h e=>mk (cond (MZ d (NZ e)) (cond (Kq d (Aw3 d f) (NZ e)) ((a (ofBytes ((e.drop (BN d)).take ((AxJ (d+f)) - (BN d))))).bind fun g=>k (.c2 f d 0 h e g)) none) (Awi (c h)))
 |.c2 g h d e i f=>mk (cond (MZ d (NZ f)) (cond (AsI d e) (cond (AsI d f) (cond (AsI d e) (k (.c2 g h (Aw6 d) (e.set (BN d) (Avw (Ii Awo (Arn e d) (Arn f d)))) i f)) none) none) none) ((b e).bind fun j=>k (.c1 g (Aw3 h g) j i)))
def OY:AzH FAY AA
 |0,_=>none
 |m+1,s=>Xo jH jM jO (OY m) s
def vG:rD:=LAz jH jM jO (OY AY)
def JBX:AwF:=fy u3 vG AVd Cc [QBF,UBF,VBF] Tryz.func372 IBX Xo LAz OY
def MAz (b:rD):ArN:=fun c=>(b c 168 31).bind fun a=>some ⟨a,0⟩
def kD:ArN:=MAz vG
def WBF:AwF:=BI u1 kD Cc AVe [JBX] Tryz.func348 MAz
def NAz (d:H6) (e:FQ) (f:Ie):RZ:=fun a=>mk (cond ((BF a) != 200) (some a) ((d a).bind fun b=>(e b).bind fun c=>Awi (f c)))
def vH:RZ:=NAz jH jM jO
def KBX:AwF:=BI u1 vH Cc Cc [QBF,UBF,VBF] Tryz.func373 NAz
inductive IAY where
 |c0 (a:Int) (b d:F6) (e:(List Int))
def LBX:IAY->AsN
 |.c0 d a b e=>(tdo Tryz.f349 480,[vi 1 d,vp 2 128,vp 4 256,vo 6 432],[(128,.var [.str a.F7,li a.ER]),(256,.var [.str b.F7,li b.ER]),(432,.sl 5 e)])
def OAz (c:AwU) (f:RZ) (k:Aw7 IAY (F6×AA)):ArX:=fun a d=>mk ((c d 0 4000).bind fun b=>cond (!b) (some (a,IK)) (cond ((BF a.F7) != 200) (some (a,IK)) ((c a.ER 0 168).bind fun e=>cond (!e) (some (a,IK)) (k (.c0 d a ⟨IK,0⟩ [])))))
def PAz (a:AwU) (b:RZ) (k:Aw7 IAY (F6×AA)):Aw7 IAY (F6×AA)
 |.c0 e c g d=>mk (cond (MZ (NZ d) e) (cond (c.ER == 168) ((b c.F7).bind fun f=>cond (Ny Aqh (AqZ e (NZ d))) (cond (((decide (Qa<=Qa)) && (Sl (Ad (0+(AqZ e (NZ d)))))) && (AwQ (Ad (0+(AqZ e (NZ d)))) (BF f))) (cond (Pz (ArD f Qa (0+(AqZ e (NZ d))))) (cond (rV d (ArD f Qa (0+(AqZ e (NZ d))))) (k (.c0 e ⟨f,Ad (0+(AqZ e (NZ d)))⟩ g (d++(Aq6 (ArD f Qa (0+(AqZ e (NZ d)))))))) none) none) none) (cond (((decide (Qa<=Qa)) && (Sl (Ad (0+Aqh)))) && (AwQ (Ad (0+Aqh)) (BF f))) (cond (Pz (ArD f Qa (0+Aqh))) (cond (rV d (ArD f Qa (0+Aqh))) (k (.c0 e ⟨f,Ad (0+Aqh)⟩ g (d++(Aq6 (ArD f Qa (0+Aqh)))))) none) none) none)) (cond (Ny (Avk c) (AqZ e (NZ d))) (cond (Kq c.ER (Aw3 c.ER (AqZ e (NZ d))) (BF c.F7)) (cond (Pz (ArD c.F7 c.ER (c.ER+(AqZ e (NZ d))))) (cond (rV d (ArD c.F7 c.ER (c.ER+(AqZ e (NZ d))))) (k (.c0 e ⟨c.F7,Aw3 c.ER (AqZ e (NZ d))⟩ g (d++(Aq6 (ArD c.F7 c.ER (c.ER+(AqZ e (NZ d)))))))) none) none) none) (cond (Kq c.ER (Aw3 c.ER (Avk c)) (BF c.F7)) (cond (Pz (ArD c.F7 c.ER (c.ER+(Avk c)))) (cond (rV d (ArD c.F7 c.ER (c.ER+(Avk c)))) (k (.c0 e ⟨c.F7,Aw3 c.ER (Avk c)⟩ g (d++(Aq6 (ArD c.F7 c.ER (c.ER+(Avk c))))))) none) none) none))) (some (c,ofBytes d)))
def kE:AzH IAY (F6×AA)
 |0,_=>none
 |m+1,s=>PAz Je vH (kE m) s
def Z7:ArX:=OAz Je vH (kE AY)
def XBF:AwF:=fy u2 Z7 AVf AVg [JV,KBX] Tryz.func349 LBX PAz OAz kE
inductive JAY where
 |c0 (b:AA) (d:Int) (e:F6) (a:(List Int))
 |c1 (a:(List Int))
def MBX:JAY->AsN
 |.c0 d e b a=>(tdo Tryz.f317 2000,[vo 7 496,vp 8 512,vs 9 d,vi 10 e],[(512,.var [.str b.F7,li b.ER]),(496,.sl 3 a)])
 |.c1 a=>(tdo Tryz.f317 2016,[vo 7 496],[(496,.sl 3 a)])
def QAz (d:CG) (h:ArN) (i:ArX) (k:Aw7 JAY (List Int)):Y8:=fun b f g=>mk ((d f).bind fun a=>cond (AwC b a) ((d g).bind fun c=>cond (ArC b a c) ((h ((b++a)++c)).bind fun e=>k (.c0 IK 0 e [])) none) none)
def FAl (a:CG) (b:ArN) (c:ArX) (k:Aw7 JAY (List Int)):Aw7 JAY (List Int)
 |.c0 g d h f=>mk (cond (d<4000) (cond (Aqw (NZ f)) (cond (EF (Arx d)) ((c h 168).bind fun e=>cond (Avx (Arx d) (BF e.2)) (cond (Avx (Aw6 (Arx d)) (BF e.2)) (cond (Avx (Aw6 (Arx d)) (BF e.2)) (cond (Avx (Ad ((Arx d)+2)) (BF e.2)) (cond (ZM (fF e d)) (cond (Ard f) (cond (ZM (VAU e d)) (cond (Aqw (NZ (f++[fF e d]))) (cond (Ard (f++[fF e d])) (k (.c0 e.2 (Aw6 d) e.1 ((f++[fF e d])++[VAU e d]))) none) (k (.c0 e.2 (Aw6 d) e.1 (f++[fF e d])))) (k (.c0 e.2 (Aw6 d) e.1 (f++[fF e d])))) none) (cond (ZM (VAU e d)) (cond (Aqw (NZ f)) (cond (Ard f) (k (.c0 e.2 (Aw6 d) e.1 (f++[VAU e d]))) none) (k (.c0 e.2 (Aw6 d) e.1 f))) (k (.c0 e.2 (Aw6 d) e.1 f)))) none) none) none) none) (cond (Avx (Arx d) (BF g)) (cond (Avx (Aw6 (Arx d)) (BF g)) (cond (Avx (Aw6 (Arx d)) (BF g)) (cond (Avx (Ad ((Arx d)+2)) (BF g)) (cond (ZM (fH g d)) (cond (Ard f) (cond (ZM (WAU g d)) (cond (Aqw (NZ (f++[fH g d]))) (cond (Ard (f++[fH g d])) (k (.c0 g (Aw6 d) h ((f++[fH g d])++[WAU g d]))) none) (k (.c0 g (Aw6 d) h (f++[fH g d])))) (k (.c0 g (Aw6 d) h (f++[fH g d])))) none) (cond (ZM (WAU g d)) (cond (Aqw (NZ f)) (cond (Ard f) (k (.c0 g (Aw6 d) h (f++[WAU g d]))) none) (k (.c0 g (Aw6 d) h f))) (k (.c0 g (Aw6 d) h f)))) none) none) none) none)) (k (.c1 f))) (k (.c1 f)))
 |.c1 d=>mk (cond (Aqw (NZ d)) (cond (Ard d) (k (.c1 (d++[Qa]))) none) (Ld d))
def Ua:AzH JAY (List Int)
 |0,_=>none
 |m+1,s=>FAl J9 kD Z7 (Ua m) s
def Vr:Y8:=QAz J9 kD Z7 (Ua AY)
def NBX:AwF:=fy u3 Vr wR JZ [XL,WBF,XBF] Tryz.func317 MBX FAl QAz Ua
inductive KAY where
 |c0 (a:AA) (b:Int) (d:(List (List Int)))
 |c1 (a:AA) (b e:Int) (d:(List (List Int)))
def OBX:KAY->AsN
 |.c0 a b d=>(tdo Tryz.f277 464,[vs 0 a,vo 3 240,vi 4 b],[(240,.sl 37 d)])
 |.c1 a b e d=>(tdo Tryz.f277 29840,[vs 0 a,vo 3 240,vi 4 b,vi 5 e],[(240,.sl 37 d)])
def RAz (b:Y8) (k:Aw7 KAY (List (List Int))):QAh:=fun a=>k (.c0 a 0 [])
def SAz (a:Y8) (k:Aw7 KAY (List (List Int))):Aw7 KAY (List (List Int))
 |.c0 d b c=>mk (cond (TR b) (k (.c1 d b 0 c)) (some c))
 |.c1 c d b e=>mk (cond (TR b) ((a c b d).bind fun f=>cond (XG e) (k (.c1 c d (Aw6 b) (e++[f]))) none) (k (.c0 c (Aw6 d) e)))
def GAl:AzH KAY (List (List Int))
 |0,_=>none
 |m+1,s=>SAz Vr (GAl m) s
def vI:QAh:=RAz Vr (GAl AY)
def PBX:AwF:=fy u1 vI Cc AEd [NBX] Tryz.func277 OBX SAz RAz GAl
def TAz (e:AwU) (f:ArN) (h:ArX):Y9:=fun g b=>mk ((e b 0 4000).bind fun a=>cond (!a) (LZ (IK,false)) ((f g).bind fun c=>(h c b).bind fun d=>LZ (d.2,true)))
def kF:Y9:=TAz Je kD Z7
def QBX:AwF:=BI u2 kF Q9 IQ [JV,WBF,XBF] Tryz.func321 TAz
inductive OAY where
 |c0 (a:AA) (b:Int) (d:(List Int))
def RBX:OAY->AsN
 |.c0 a b d=>(tdo Tryz.f279 976,[vo 5 368,vs 6 a,vi 8 b],[(368,.sl 3 d)])
def UAz (d:CG) (f:Y9) (k:Aw7 OAY (List Int)):TM:=fun b e=>mk ((d e).bind fun a=>cond (AwC b a) ((f (b++a) 128).bind fun c=>k (.c0 c.1 0 [])) none)
def VAz (a:CG) (b:Y9) (k:Aw7 OAY (List Int)):Aw7 OAY (List Int)
 |.c0 d c e=>mk (cond (Aqw c) (cond (Avx (Qh c) (BF d)) (cond (ArT c) (cond (Ard e) (k (.c0 d (Aw6 c) (e++[(ARf (fU (Avb d (Qh c))) (Qh (fU (Avb d (Qh c))))).tmod 3329]))) none) (cond (Ard e) (k (.c0 d (Aw6 c) (e++[(ARf (Avb d (Qh c)) (Qh (Avb d (Qh c)))).tmod 3329]))) none)) none) (Ld e))
def kG:AzH OAY (List Int)
 |0,_=>none
 |m+1,s=>VAz J9 kF (kG m) s
def Vs:TM:=UAz J9 kF (kG AY)
def SBX:AwF:=fy u2 Vs Q9 JZ [XL,QBX] Tryz.func279 RBX VAz UAz kG
inductive QAY where
 |c0 (a:(List Int)) (b:Int)
def TBX:QAY->AsN
 |.c0 a b=>(tdo Tryz.f318 464,[vr 0 3 a,vi 3 b],[])
def WAz (b:AwU) (k:Aw7 QAY Bool):Av0:=fun a=>mk (cond ((NZ a) != 256) (some false) (k (.c0 a 0)))
def HAl (a:AwU) (k:Aw7 QAY Bool):Aw7 QAY Bool
 |.c0 c b=>mk (cond (MZ b (NZ c)) (cond (AsI b c) ((a (Arn c b) 0 3328).bind fun d=>cond (!d) (some false) (k (.c0 c (Aw6 b)))) none) (some true))
def kJ:AzH QAY Bool
 |0,_=>none
 |m+1,s=>HAl Je (kJ m) s
def Ub:Av0:=WAz Je (kJ AY)
def IAl:AwF:=fy u1 Ub Wn E8 [JV] Tryz.func318 TBX HAl WAz kJ
inductive RAY where
 |c0 (a b d:Int)
def UBX:RAY->AsN
 |.c0 a b d=>(tdo Tryz.f320 2000,[vi 0 a,vi 3 b,vi 4 d],[])
def XAz (k:Aw7 RAY Int):En:=fun a=>mk (cond (Avd (a.tmod 128)) (k (.c0 (Ad ((a.tmod 128)+128)) 0 0)) (k (.c0 (a.tmod 128) 0 0)))
def YAz (k:Aw7 RAY Int):Aw7 RAY Int
 |.c0 b c a=>mk (cond (a<7) (k (.c0 (Qh b) (Aw3 (Ad (2*c)) (b.tmod 2)) (Aw6 a))) (some c))
def vJ:AzH RAY Int
 |0,_=>none
 |m+1,s=>YAz (vJ m) s
def Z8:En:=XAz (vJ AY)
def YBF:AwF:=fy u1 Z8 FN FN [] Tryz.func320 UBX YAz XAz vJ
inductive UAY where
 |c0 (a b d:Int)
def VBX:UAY->AsN
 |.c0 a b d=>(tdo Tryz.f319 2016,[vi 0 a,vi 1 b,vi 5 d],[])
def ZAz (d:AwU) (k:Aw7 UAY Int):Fe:=fun b a=>mk ((d a 0 1000000000).bind fun c=>cond (!c) (some 0) (cond (Avd (b.tmod 3329)) (k (.c0 (Ad ((b.tmod 3329)+3329)) a 1)) (k (.c0 (b.tmod 3329) a 1))))
def ALl (a:AwU) (k:Aw7 UAY Int):Aw7 UAY Int
 |.c0 b c d=>mk (cond (Arf c) (cond (ArT c) (k (.c0 (ZG (b*b)) (Qh c) (fG d b))) (k (.c0 (ZG (b*b)) (Qh c) d))) (some d))
def wz:AzH UAY Int
 |0,_=>none
 |m+1,s=>ALl Je (wz m) s
def Z9:Fe:=ZAz Je (wz AY)
def ZBF:AwF:=fy u2 Z9 wP FN [JV] Tryz.func319 VBX ALl ZAz wz
inductive XAY where
 |c0 (a b:Int) (d:(List Int))
 |c1 (a b e:Int) (d:(List Int))
 |c2 (a b:Int) (e f g:Int) (d:(List Int))
def WBX:XAY->AsN
 |.c0 a b d=>(tdo Tryz.f278 2000,[vo 3 240,vi 4 a,vi 5 b],[(240,.sl 3 d)])
 |.c1 a b e d=>(tdo Tryz.f278 128144,[vo 3 240,vi 4 a,vi 5 b,vi 6 e],[(240,.sl 3 d)])
 |.c2 a b e f g d=>(tdo Tryz.f278 32805488,[vo 3 240,vi 4 a,vi 5 b,vi 6 e,vi 7 f,vi 8 g],[(240,.sl 3 d)])
def BA0 (c:Av0) (d:En) (e:Fe) (k:Aw7 XAY (List Int)):FQ:=fun a=>mk ((c a).bind fun b=>cond (!b) (Ld []) (cond (Ej ((0+a.length)*8)) (k (.c0 1 128 a)) none))
def aA (a:Av0) (b:En) (c:Fe) (k:Aw7 XAY (List Int)):Aw7 XAY (List Int)
 |.c0 f d e=>mk (cond (d>=2) (k (.c1 f d 0 e)) (Ld e))
 |.c1 e h d i=>mk (cond (Aqw d) ((b e).bind fun f=>(c 17 f).bind fun g=>k (.c2 (Aw6 e) h d g d i)) (k (.c0 e (Qh h) i)))
 |.c2 i e h g d f=>mk (cond (MZ d (Aw3 h e)) (cond (Awe (d+e) f) (cond (AsI d f) (cond (Awe (d+e) f) (cond (AsI d (SAU f d e g)) (cond (AsI d (SAU f d e g)) (k (.c2 i e h g (Aw6 d) ((SAU f d e g).set (BN d) ((Aw3 (Arn (SAU f d e g) d) (fG g (Ud f (d+e)))).tmod 3329)))) none) none) none) none) none) (k (.c1 i e (Aw3 h (Ad (2*e))) f)))
def PG:AzH XAY (List Int)
 |0,_=>none
 |m+1,s=>aA Ub Z8 Z9 (PG m) s
def Xp:FQ:=BA0 Ub Z8 Z9 (PG AY)
def AZl:AwF:=fy u1 Xp Wn JZ [IAl,YBF,ZBF] Tryz.func278 WBX aA BA0 PG
inductive YAY where
 |c0 (a b d:Int)
def XBX:YAY->AsN
 |.c0 a b d=>(tdo Tryz.f350 464,[vi 0 a,vi 3 b,vi 4 d],[])
def CA0 (k:Aw7 YAY Int):En:=fun a=>k (.c0 a 1 0)
def JAl (k:Aw7 YAY Int):Aw7 YAY Int
 |.c0 b c a=>mk (cond (MZ a b) (k (.c0 b (Ad (2*c)) (Aw6 a))) (some c))
def kK:AzH YAY Int
 |0,_=>none
 |m+1,s=>JAl (kK m) s
def Xq:En:=CA0 (kK AY)
def YBX:AwF:=fy u1 Xq FN FN [] Tryz.func350 XBX JAl CA0 kK
inductive ZAY where
 |c0 (a:(List Int)) (b h:Int)
 |c1 (a:(List Int)) (b d:Int) (e f:Int) (g:(List Int))
 |c2 (a:(List Int)) (b d:Int) (e f:Int) (g:(List Int))
def ZBX:ZAY->AsN
 |.c0 a b h=>(tdo Tryz.f322 464,[vr 0 3 a,vi 1 b,vi 6 h],[])
 |.c1 a b d e f g=>(tdo Tryz.f322 8144,[vr 0 3 a,vi 1 b,vo 7 496,vi 8 d,vi 9 e,vi 10 f],[(496,.sl 5 g)])
 |.c2 a b d e f g=>(tdo Tryz.f322 1042736,[vr 0 3 a,vi 1 b,vo 7 496,vi 8 d,vi 9 e,vi 10 f],[(496,.sl 5 g)])
def DA0 (c:AwU) (e:En) (k:Aw7 ZAY (AA×Bool)):ZAt:=fun d b=>mk ((c b 1 12).bind fun a=>cond (!a) (LZ (IK,false)) (k (.c0 d b 0)))
def Q5 (a:AwU) (b:En) (k:Aw7 ZAY (AA×Bool)):Aw7 ZAY (AA×Bool)
 |.c0 c e d=>mk (cond (MZ d (NZ c)) (cond (AsI d c) ((b e).bind fun f=>(a (Arn c d) 0 (Awm f)).bind fun g=>cond (!g) (LZ (IK,false)) (k (.c0 c e (Aw6 d)))) none) (k (.c1 c e 0 0 0 [])))
 |.c1 d h i f c e=>mk (cond (MZ c (NZ d)) (cond (AsI c d) ((b f).bind fun g=>k (.c2 d h (Aw3 i (Ad ((Arn d c)*g))) (Aw3 f h) c e)) none) (cond (Arf f) (Eo (NS e) (LZ (ofBytes (e++[w8 i]),true))) (LZ (ofBytes e,true))))
 |.c2 f g e c h d=>mk (cond (c>=8) (cond (NS d) (k (.c2 f g (Ad (e.tdiv 256)) (Ad (c - 8)) h (d++[w8 (e.tmod 256)]))) none) (k (.c1 f g e c (Aw6 h) d)))
def OZ:AzH ZAY (AA×Bool)
 |0,_=>none
 |m+1,s=>Q5 Je Xq (OZ m) s
def KAl:ZAt:=DA0 Je Xq (OZ AY)
def AnB:AwF:=fy u2 KAl wQ IQ [JV,YBX] Tryz.func322 ZBX Q5 DA0 OZ
def EA0 (d:Av0) (e:ZAt):Ie:=fun b=>mk ((d b).bind fun a=>cond (!a) Rn ((e b 12).bind fun c=>some c.1))
def aB:Ie:=EA0 Ub KAl
def BBY:AwF:=BI u1 aB Wn Cc [IAl,AnB] Tryz.func280 EA0
inductive ABo where
 |c0 (a b:(List Int)) (d:Int) (e:(List Int))
def CBY:ABo->AsN
 |.c0 a b d e=>(tdo Tryz.f323 976,[vr 0 3 a,vr 1 3 b,vo 5 368,vi 6 d],[(368,.sl 3 e)])
def FA0 (b:Av0) (f:En) (g:Fe) (k:Aw7 ABo (List Int)):Aq1:=fun c e=>mk ((b c).bind fun a=>cond (!a) (Ld []) ((b e).bind fun d=>cond (!d) (Ld []) (k (.c0 c e 0 []))))
def GA0 (a:Av0) (b:En) (c:Fe) (k:Aw7 ABo (List Int)):Aw7 ABo (List Int)
 |.c0 e f d g=>mk (cond (d<128) ((b d).bind fun h=>(c 17 (Avo h)).bind fun i=>cond (Avx (Avo d) (NZ e)) (cond (Avx (Avo d) (NZ f)) (cond (Awe (2*d) e) (cond (Awe (2*d) f) (cond (Awe (2*d) e) (cond (Avx (Avo d) (NZ f)) (cond (Avx (Avo d) (NZ e)) (cond (Awe (2*d) f) (cond (Ej ((g.length+2)*8)) (k (.c0 e f (Aw6 d) (g++[(NQ ((Ud e (2*d))*(Ud f (2*d))) ((fG (Arn e (Avo d)) (Arn f (Avo d)))*i)).tmod 3329,(NQ ((Ud e (2*d))*(Arn f (Avo d))) ((Arn e (Avo d))*(Ud f (2*d)))).tmod 3329]))) none) none) none) none) none) none) none) none) none) (Ld g))
def kL:AzH ABo (List Int)
 |0,_=>none
 |m+1,s=>GA0 Ub Z8 Z9 (kL m) s
def xA:Aq1:=FA0 Ub Z8 Z9 (kL AY)
def DBY:AwF:=fy u2 xA bK JZ [IAl,YBF,ZBF] Tryz.func323 CBY GA0 FA0 kL
inductive CAZ where
 |c0 (a b:(List Int)) (d:Int) (e:(List Int))
def EBY:CAZ->AsN
 |.c0 a b d e=>(tdo Tryz.f281 464,[vr 0 3 a,vr 1 3 b,vo 5 368,vi 6 d],[(368,.sl 3 e)])
def HA0 (c:Av0) (k:Aw7 CAZ (List Int)):Aq1:=fun a b=>k (.c0 a b 0 [])
def IA0 (a:Av0) (k:Aw7 CAZ (List Int)):Aw7 CAZ (List Int)
 |.c0 d e b c=>mk (cond (Aqw b) ((a d).bind fun f=>cond f ((a e).bind fun g=>cond g (cond (AsI b d) (cond (AsI b e) (cond (Ard c) (k (.c0 d e (Aw6 b) (c++[(Aw3 (Arn d b) (Arn e b)).tmod 3329]))) none) none) none) (Ld c)) (Ld c)) (Ld c))
def kM:AzH CAZ (List Int)
 |0,_=>none
 |m+1,s=>IA0 Ub (kM m) s
def Xr:Aq1:=HA0 Ub (kM AY)
def BBG:AwF:=fy u2 Xr bK JZ [IAl] Tryz.func281 EBY IA0 HA0 kM
inductive DAZ where
 |c0 (a:(List (List Int))) (b:(List (List Int))) (d:Int) (e:(List Int))
def FBY:DAZ->AsN
 |.c0 a b d e=>(tdo Tryz.f282 464,[vr 0 37 a,vr 1 37 b,vo 5 368,vi 6 d],[(368,.sl 3 e)])
def JA0 (c d:Aq1) (k:Aw7 DAZ (List Int)):Rj:=fun a b=>mk (k (.c0 a b 0 XI))
def LAl (a b:Aq1) (k:Aw7 DAZ (List Int)):Aw7 DAZ (List Int)
 |.c0 d e c h=>mk (cond (Ar5 c d.length) (cond (AwT c d.length) (cond (AwT c e.length) ((a (d.getD (BN c) []) (e.getD (BN c) [])).bind fun f=>(b h f).bind fun g=>k (.c0 d e (Aw6 c) g)) none) none) (Ld h))
def kN:AzH DAZ (List Int)
 |0,_=>none
 |m+1,s=>LAl xA Xr (kN m) s
def Uc:Rj:=JA0 xA Xr (kN AY)
def CBG:AwF:=fy u2 Uc AUj JZ [DBY,BBG] Tryz.func282 FBY LAl JA0 kN
inductive EAZ where
 |c0 (a b:AA) (d e f:AA) (j:Int) (g:Ky) (h:(List (List Int))) (i:(List (List Int)))
 |c1 (a b:AA) (d e f:AA) (l:Int) (g:Ky) (h:(List (List Int))) (i:(List (List Int)))
def GBY:EAZ->AsN
 |.c0 b d e f g j a h i=>(tdo Tryz.f246 65488,[vp 2 128,vs 4 b,vs 5 d,vs 6 e,vo 7 496,vo 8 560,vs 9 f,vs 10 g,vi 11 j],[(128,.var [.str a.bH,.str a.bI]),(496,.sl 37 h),(560,.sl 37 i)])
 |.c1 b d e f g l a h i=>(tdo Tryz.f246 131024,[vp 2 128,vs 4 b,vs 5 d,vs 6 e,vo 7 496,vo 8 560,vs 9 f,vs 10 g,vi 13 l],[(128,.var [.str a.bH,.str a.bI]),(496,.sl 37 h),(560,.sl 37 i)])
def KA0 (b:RZ) (g:QAh) (h:TM) (i:FQ) (j:Ie) (l:Rj) (m:Aq1) (k:Aw7 EAZ (Ky×Bool)):ZA:=fun d=>mk (cond ((BF d) != 32) (some (⟨IK,IK⟩,false)) ((b d).bind fun a=>cond (AwC a (Awx ⟨#[114]⟩)) ((b (a++(Awx ⟨#[114]⟩))).bind fun c=>cond (AwC a (Awx ⟨#[115]⟩)) ((b (a++(Awx ⟨#[115]⟩))).bind fun e=>(g c).bind fun f=>k (.c0 a c e IK IK 0 ⟨IK,IK⟩ f [])) none) none))
def Xt (a:RZ) (b:QAh) (c:TM) (d:FQ) (e:Ie) (f:Rj) (g:Aq1) (k:Aw7 EAZ (Ky×Bool)):Aw7 EAZ (Ky×Bool)
 |.c0 p q i r n h s t l=>mk (cond (TR h) ((c i h).bind fun o=>(d o).bind fun j=>cond (XG l) ((e j).bind fun m=>cond (AwC n m) (k (.c0 p q i r (n++m) (Aw6 h) s t (l++[j]))) none) none) (k (.c1 p q i r n 0 s t l)))
 |.c1 p j u h l i x n s=>mk (cond (TR i) (cond (Kq (Ad (i*2)) (Ad ((Ad (i*2))+2)) (n.length:Int)) ((f ((n.drop (AxJ (i*2))).take ((AxJ ((Ad (i*2))+2)) - (AxJ (i*2)))) s).bind fun r=>(c u (Ad (2+i))).bind fun t=>(d t).bind fun v=>(g r v).bind fun w=>(e w).bind fun o=>cond (AwC h o) (k (.c1 p j u (h++o) l (Aw6 i) x n s)) none) none) (cond (AwC h j) (cond (AwC l (h++j)) ((a (h++j)).bind fun m=>cond (ArC l (h++j) m) (cond (AwC p (Awx ⟨#[122]⟩)) ((a (p++(Awx ⟨#[122]⟩))).bind fun q=>cond (ArC (l++(h++j)) m q) (some (⟨h++j,((l++(h++j))++m)++q⟩,true)) none) none) none) none) none))
def Vt:AzH EAZ (Ky×Bool)
 |0,_=>none
 |m+1,s=>Xt JC vI Vs Xp aB Uc Xr (Vt m) s
def xB:ZA:=KA0 JC vI Vs Xp aB Uc Xr (Vt AY)
def DBG:AwF:=fy u1 xB Cc AUk [P5,PBX,SBX,AZl,BBY,CBG,BBG] Tryz.func246 GBY Xt KA0 Vt
def LA0:rE:=fun _=>none
def HBY:AwF:=fs u1 LA0 Cc AUl 351
def MA0:TM:=fun _ _=>none
def IBY:AwF:=fs u2 MA0 Q9 JZ 352
def NA0:FQ:=fun _=>none
def JBY:AwF:=fs u1 NA0 Wn JZ 354
def OA0:Aq1:=fun _ _=>none
def KBY:AwF:=fs u2 OA0 bK JZ 353
inductive GAZ where
 |c0 (a:AA) (b:Int) (d:(List (List Int))) (e:(List (List Int)))
def LBY:GAZ->AsN
 |.c0 a b d e=>(tdo Tryz.f324 4048,[vs 1 a,vo 6 432,vo 8 560,vi 9 b],[(432,.sl 37 d),(560,.sl 37 e)])
def PA0 (d:rE) (e:TM) (f:FQ) (g:Rj) (h:FQ) (i:Aq1) (k:Aw7 GAZ (List Int×Bool)):rF:=fun b c=>mk (cond ((BF b) != 1632) (some ([],false)) (cond ((BF c) != 768) (some ([],false)) ((d b).bind fun a=>cond (!a.2) (some ([],false)) (k (.c0 c 0 a.1 [])))))
def EBG (a:rE) (b:TM) (c:FQ) (d:Rj) (e:FQ) (f:Aq1) (k:Aw7 GAZ (List Int×Bool)):Aw7 GAZ (List Int×Bool)
 |.c0 h g m i=>mk (cond (TR g) (cond (Kq (Ad (g*320)) (Ad ((Aw6 g)*320)) (BF h)) ((b (h.extract (AxJ (g*320)) (AxJ ((Aw6 g)*320))) 10).bind fun j=>(c j).bind fun l=>cond (XG i) (k (.c0 h (Aw6 g) m (i++[l]))) none) none) (cond ((AwQ Qa (640:Int)) && (decide (640<=(BF h)))) ((b (Aqq h (640:Int)) 4).bind fun n=>(d m i).bind fun o=>(e o).bind fun p=>(f n p).bind fun q=>some (q,true)) none))
def QA0:AzH GAZ (List Int×Bool)
 |0,_=>none
 |m+1,s=>EBG LA0 MA0 Xp Uc NA0 OA0 (QA0 m) s
def RA0:rF:=PA0 LA0 MA0 Xp Uc NA0 OA0 (QA0 AY)
def MBY:AwF:=fy u2 RA0 KJ AKk [HBY,IBY,AZl,CBG,JBY,KBY] Tryz.func324 LBY EBG PA0 QA0
def FBG:rG:=fun _ _=>none
def NBY:AwF:=fs u2 FBG wQ Cc 325
def SA0 (c:rF) (f:rG):Avv:=fun d e=>mk ((c d e).bind fun a=>cond (!a.2) (LZ (IK,false)) ((f a.1 1).bind fun b=>LZ (b,true)))
def TA0:Avv:=SA0 RA0 FBG
def OBY:AwF:=BI u2 TA0 KJ IQ [MBY,NBY] Tryz.func283 SA0
def GBG:RAh:=fun _ _=>none
def PBY:AwF:=fs u2 GBG KJ AUm 284
def UA0 (h:Avv) (i:RAh) (f:RZ):Avv:=fun a b=>mk ((h a b).bind fun d=>cond (!d.2) (LZ (IK,false)) (Eo (ZAu a) ((i (a.extract (BN (768:Int)) (BN (1568:Int))) d.1).bind fun c=>cond c.2.2 (cond (EU c.1 b) (LZ (c.2.1,true)) (Eo (GL (Ad ((BF a) - 32)) (BF a)) (Eo (AwC (ZAU a) b) ((f ((ZAU a)++b)).bind fun e=>LZ (e,true))))) (Eo (GL (Ad ((BF a) - 32)) (BF a)) (Eo (AwC (ZAU a) b) ((f ((ZAU a)++b)).bind fun g=>LZ (g,true)))))))
def kP:Avv:=UA0 TA0 GBG JC
def QBY:AwF:=BI u2 kP KJ IQ [OBY,PBY,P5] Tryz.func247 UA0
def VA0 (e:OD):rH:=fun a c b=>mk ((e a).bind fun d=>cond (!d) (some (⟨0,0,false,false,false,false,IK,0⟩,false)) (cond (AqY a) (cond (!c) (some (⟨0,0,false,false,false,false,IK,0⟩,false)) (cond (Em a) (cond (!b) (some (⟨0,0,false,false,false,false,IK,0⟩,false)) (some (W9 a c b,true))) (some (W9 a c b,true)))) (cond (Em a) (cond (!b) (some (⟨0,0,false,false,false,false,IK,0⟩,false)) (some (W9 a c b,true))) (some (W9 a c b,true)))))
def MAl:rH:=VA0 WS
def RBY:AwF:=BI u3 MAl AUn Yb [QAV] Tryz.func248 VA0
def WA0 (b:RZ):RZ:=fun a=>mk (AwZ (AwC a AxA) (Awi (b (a++AxA))))
def NAl:RZ:=WA0 uT
def SBY:AwF:=BI u1 NAl Cc Cc [PBF] Tryz.func285 WA0
def XA0 (d:OD) (e:ZA) (f:RZ):rJ:=fun a=>mk ((d a).bind fun b=>cond (!b) Rn (cond ((Jb a) == 1) ((e (Aqz a)).bind fun c=>some c.1.bH) (cond ((Jb a) == 2) (Awi (f (Aqz a))) Rn)))
def OAl:rJ:=XA0 WS xB NAl
def TBY:AwF:=BI u1 OAl S9 Cc [QAV,DBG,SBY] Tryz.func249 XA0
def YA0 (e:ql) (d:fC) (t:Ri) (u:Awt) (v:Avl) (w:Avv) (x:ZA) (y:Avv) (c:fB) (z:rH) (A:IAU) (B:rJ):Ri:=fun j a b=>mk (cond (a.Au == 6) ((e b 1).bind fun h=>cond h (DY (d [] (Aqz b))) (DY (c 8 ZH))) (cond (a.Au == 5) ((e b 3).bind fun i=>cond i (DY (t j a b)) (DY (c 8 ZH))) (cond (a.Au == 10) ((e b 2).bind fun l=>cond l ((u b).bind fun m=>(v j).bind fun n=>(w n m.1).bind fun o=>DY (d [] o.1)) (DY (c 8 ZH))) (cond (a.Au == 12) ((e b 4).bind fun p=>cond p ((x (Aqz b)).bind fun q=>(y q.1.bI a.fText).bind fun f=>cond (!f.2) (DY (c 6 BAV)) (DY (d [] f.1))) (DY (c 8 ZH))) (cond (a.Au == 8) ((z b a.CY a.CX).bind fun g=>cond g.2 ((A g.1).bind fun r=>DY (d r IK)) (DY (c 8 ZH))) (cond (a.Au == 7) ((B b).bind fun s=>DY (d [] s)) (cond (a.Au == 9) (DY (d [⟨4,IK,b.fId,⟨0,0,false,false,false,false,IK,0⟩⟩] IK)) (DY (c 8 ZH)))))))))
def PAl:Ri:=YA0 LAk rZ CAl Yg cO cZ xB kP rY MAl CAk OAl
def UBY:AwF:=BI u3 PAl AEp Oh [XBV,UAW,WBW,ZAi,JAx,LAx,DBG,QBY,RAW,RBY,WAx,TBY] Tryz.func190 YA0
def ZA0 (c:fB) (l:CG) (f:fC) (p:JE) (q:AsE) (r:RZ) (n:qh) (o:Y1) (s:AsE) (t:Aqk) (u:Ri):AsE:=fun b a=>mk (cond (a.Au == 1) (cond ((He b:Int) == 3) (DY (c 1 fK)) (cond ((Fz b) == 1000) (DY (c 1 fK)) ((l (Aw6 (Fz b))).bind fun j=>DY (f [] j)))) ((p b (AxD a)).bind fun d=>cond (Avd d) (DY (c 2 ⟨#[115,101,115,115,105,111,110]⟩)) (cond (a.Au == 13) (DY (f [] IK)) (cond (a.Au == 2) (DY (q b a)) (cond (AwT d (He b)) (cond (!(Arb (Md b) d ⟨0,false⟩).QW) (DY (c 5 ⟨#[111,117,116]⟩)) (cond (a.Au == 3) (cond ((BF a.fText) > 20) (DY (c 6 BAV)) ((r a.fText).bind fun m=>DY (f [⟨1,m,0,⟨0,0,false,false,false,false,IK,0⟩⟩] IK))) (cond (a.Au == 4) (cond (a.Aj == 2) ((l (Awg b)).bind fun e=>cond (AwC e fO) (cond (AwC (e++fO) a.fText) ((n a.Aj ((e++fO)++a.fText)).bind fun g=>DY (o b a g.1 g.2)) none) none) ((n a.Aj a.fText).bind fun h=>DY (o b a h.1 h.2))) (cond (a.Au == 11) (DY (s b a)) ((t (Ar8 b) a.Ag).bind fun i=>cond (!i.2) (DY (c 7 ⟨#[110,111,110,101]⟩)) (DY (u b a i.1))))))) none)))))
def PI:AsE:=ZA0 rY iQ rZ ZAj ADp JC BAk tq KAk RJ PAl
def VBY:AwF:=BI u2 PI bM Oh [RAW,CBF,UAW,OBV,PBV,P5,QBV,FBF,WBV,qX,UBY] Tryz.func127 ZA0
inductive HAZ where
 |c0 (a:(List Int)) (b:Int) (d:BU) (e f:(List BQ))
def WBY:HAZ->AsN
 |.c0 a b d e f=>(tdo Tryz.f250 976,[vr 1 3 a,vp 2 128,vp 4 256,vp 6 384,vi 7 b],[(128,.var [.BG 90 d.Ak]),(256,.var [.own 1016384]),(384,.var [.own 1024576]),(1016384,.sl 90 e),(1024576,.sl 90 f)])
def AMN (c:Arj) (k:Aw7 HAZ (BU×Bool)):qU:=fun b d=>mk ((c b).bind fun a=>cond (!a) (Qb (IZ,false)) (k (.c0 d 0 b [] [])))
def BA1 (a:Arj) (k:Aw7 HAZ (BU×Bool)):Aw7 HAZ (BU×Bool)
 |.c0 d b c f e=>mk (cond (Ar5 b (AxK c)) (cond (Jt b c) (cond (MZ b (NZ d)) (cond (AsI b d) (cond (Ny (Arn d b) (AsL c b)) (cond (MZ (AsL c b) (Jc c b)) (cond (GL (Jc c b) (AsL c b)) (cond (Rk e) (k (.c0 d (Aw6 b) c f (e++[VG (Aqt c b) (Uj c b) (BN (Jc c b))]))) none) none) (cond ((Sl (AsL c b)) && (decide ((AsL c b)<=(AsL c b)))) (cond (Rk e) (k (.c0 d (Aw6 b) c f (e++[(⟨(Aqt c b).fName,Arz (Uj c b) (AsL c b),AsL c b⟩:BQ)]))) none) none)) (cond (MZ (Arn d b) (Jc c b)) (cond (GL (Jc c b) (AsL c b)) (cond (Rk e) (k (.c0 d (Aw6 b) c f (e++[VG (Aqt c b) (Uj c b) (BN (Jc c b))]))) none) none) (cond (GL (Arn d b) (AsL c b)) (cond (Rk e) (k (.c0 d (Aw6 b) c f (e++[(⟨(Aqt c b).fName,Arz (Uj c b) (Arn d b),Arn d b⟩:BQ)]))) none) none))) none) (cond (0<(Jc c b)) (cond (GL (Jc c b) (AsL c b)) (cond (Rk e) (k (.c0 d (Aw6 b) c f (e++[VG (Aqt c b) (Uj c b) (BN (Jc c b))]))) none) none) (cond (Rk e) (k (.c0 d (Aw6 b) c f (e++[(⟨(Aqt c b).fName,Arz (Uj c b) Qa,0⟩:BQ)]))) none))) none) (Qb (⟨e⟩,true)))
def xC:AzH HAZ (BU×Bool)
 |0,_=>none
 |m+1,s=>BA1 WT (xC m) s
def xE:qU:=AMN WT (xC AY)
def XBY:AwF:=fy u2 xE AUo jq [MAj] Tryz.func250 WBY BA1 AMN xC
def CA1 (e:AwU) (f:VH) (h:qU):eG:=fun g b a i=>mk (Nw (e a 0 (Qi b)) (Qb (IZ,false)) (ArK (GL a (Qi b)) ((f g ((b.take (BN a)).drop 0)).bind fun c=>cond (MZ c.2 a) (Qb (IZ,false)) ((h c.1 i).bind fun d=>Qb (d.1,d.2)))))
def xG:eG:=CA1 Je qB xE
def YBY:AwF:=BI u4 xG AUp jq [JV,YAw,XBY] Tryz.func191 CA1
def DA1 (c:ArW):AwE:=fun b d=>mk ((c b d).bind fun a=>cond (Avd a) (LZ (IK,false)) (Eo (Jt a b) (LZ (Uj b a,true))))
def kQ:AwE:=DA1 pY
def HBG:AwF:=BI u2 kQ wS IQ [TAw] Tryz.func94 DA1
inductive LAZ where
 |c0 (a:AA) (b:Int) (d:(List AA))
def ZBY:LAZ->AsN
 |.c0 a b d=>(tdo Tryz.f140 992,[vs 0 a,vo 4 304,vi 5 b],[(304,.sl 9 d)])
def EA1 (b:Qo) (c:Aqn) (k:Aw7 LAZ (List AA×Int)):ZB:=fun a=>mk (cond ((BF a) > 20000) (some ([],0)) (k (.c0 a 0 [])))
def FA1 (a:Qo) (b:Aqn) (k:Aw7 LAZ (List AA×Int)):Aw7 LAZ (List AA×Int)
 |.c0 e d f=>mk (cond (MZ d (BF e)) ((a e d).bind fun c=>cond (!c.2.2) (some (f,d)) (cond (Ny c.1 (Ad ((AqZ (BF e) c.2.1) - 4))) (some (f,d)) (cond (Kq (Ad (c.2.1+4)) (Ad (AxC c)) (BF e)) ((b (e.extract (AxJ (c.2.1+4)) (AxJ (AxC c)))).bind fun g=>cond (!g.2) (some (f,d)) (cond (Kq d (Ad (AxC c)) (BF e)) (cond (!(EU g.1 (ArD e d (AxC c)))) (some (f,d)) (cond (Pn f) (k (.c0 e (Ad (AxC c)) (f++[e.extract (AxJ (c.2.1+4)) (AxJ (AxC c))]))) none)) none)) none))) (some (f,d)))
def xI:AzH LAZ (List AA×Int)
 |0,_=>none
 |m+1,s=>FA1 RS Yj (xI m) s
def xH:ZB:=EA1 RS Yj (xI AY)
def Anc:AwF:=fy u1 xH Cc AUq [BAy,OAw] Tryz.func140 ZBY FA1 EA1 xI
def dY (l:Y2) (m:JAU) (i:Y2) (j:Y3) (c:Aq9):ZC:=fun b=>mk ((l ⟨b,0,false⟩).bind fun a=>cond (a.1 == 1) ((m a.2 32).bind fun d=>ZE c ⟨a.1,d.1,0,⟨0,0,false,false,false,false,IK,0⟩⟩ d.2.I7 (some (⟨0,IK,0,⟨0,0,false,false,false,false,IK,0⟩⟩,false)) b (some (⟨a.1,d.1,0,⟨0,0,false,false,false,false,IK,0⟩⟩,true))) (cond (a.1 == 2) (cond (a.1 == 2) ((i a.2).bind fun e=>ZE c ⟨a.1,IK,e.1,⟨0,0,false,false,false,false,IK,0⟩⟩ e.2.I7 (some (⟨0,IK,0,⟨0,0,false,false,false,false,IK,0⟩⟩,false)) b (some (⟨a.1,IK,e.1,⟨0,0,false,false,false,false,IK,0⟩⟩,true))) (cond (a.1 == 3) (cond (AAk b) ((j (Aqq b Awl)).bind fun g=>ZE c ⟨a.1,IK,0,g.1⟩ a.2.I7 (some (⟨0,IK,0,⟨0,0,false,false,false,false,IK,0⟩⟩,false)) b (some (⟨a.1,IK,0,g.1⟩,true))) none) (ZE c ⟨a.1,IK,0,⟨0,0,false,false,false,false,IK,0⟩⟩ a.2.I7 (some (⟨0,IK,0,⟨0,0,false,false,false,false,IK,0⟩⟩,false)) b (some (⟨a.1,IK,0,⟨0,0,false,false,false,false,IK,0⟩⟩,true))))) (cond (a.1 == 4) ((i a.2).bind fun f=>ZE c ⟨a.1,IK,f.1,⟨0,0,false,false,false,false,IK,0⟩⟩ f.2.I7 (some (⟨0,IK,0,⟨0,0,false,false,false,false,IK,0⟩⟩,false)) b (some (⟨a.1,IK,f.1,⟨0,0,false,false,false,false,IK,0⟩⟩,true))) (cond (a.1 == 3) (cond (AAk b) ((j (Aqq b Awl)).bind fun h=>ZE c ⟨a.1,IK,0,h.1⟩ a.2.I7 (some (⟨0,IK,0,⟨0,0,false,false,false,false,IK,0⟩⟩,false)) b (some (⟨a.1,IK,0,h.1⟩,true))) none) (ZE c ⟨a.1,IK,0,⟨0,0,false,false,false,false,IK,0⟩⟩ a.2.I7 (some (⟨0,IK,0,⟨0,0,false,false,false,false,IK,0⟩⟩,false)) b (some (⟨a.1,IK,0,⟨0,0,false,false,false,false,IK,0⟩⟩,true)))))))
def AsH:ZC:=dY SY AsJ Yo WG dR
def BBZ:AwF:=BI u1 AsH Cc AUr [HBF,EAy,DAy,IBF,XAv] Tryz.func142 dY
inductive OAZ where
 |c0 (a:AA) (b d:Int) (e:(List Ah)) (f:(List AA))
def CBZ:OAZ->AsN
 |.c0 a b d e f=>(tdo Tryz.f95 2000,[vs 0 a,vo 6 432,vo 7 496,vi 9 b,vi 10 d],[(432,.sl 78 e),(496,.sl 9 f)])
def GA1 (b:ZB) (e:LV) (f:ZC) (g:Aqn) (k:Aw7 OAZ (List Ah×Int)):Aq8:=fun d c=>(b c).bind fun a=>k (.c0 d 0 0 [] a.1)
def QAl (a:ZB) (b:LV) (c:ZC) (d:Aqn) (k:Aw7 OAZ (List Ah×Int)):Aw7 OAZ (List Ah×Int)
 |.c0 l h e g f=>mk (cond (MZ e (Qd f)) (cond (OJ e f) ((b l (Aw6 e) (Ig f e IK)).bind fun i=>(c i.1).bind fun j=>cond (!i.2) (some (g,h)) (cond (!j.2) (some (g,h)) (cond (eH g) (cond (OJ e f) ((d (Ig f e IK)).bind fun m=>k (.c0 l (Aw3 h (BF m.1)) (Aw6 e) (g++[j.1]) f)) none) none))) none) (some (g,h)))
def kT:AzH OAZ (List Ah×Int)
 |0,_=>none
 |m+1,s=>QAl xH iR AsH Yj (kT m) s
def kS:Aq8:=GA1 xH iR AsH Yj (kT AY)
def IBG:AwF:=fy u2 kS KJ AUs [Anc,GBF,BBZ,OAw] Tryz.func95 CBZ QAl GA1 kT
def IA1:rM:=fun a b=>mk (cond (Ej ((0+a.CO.length)*80)) (cond (eH a.CO) (some ⟨a.AX,a.Bq,Aw2 a,a.Cm,a.CO++[b]⟩) none) none)
def Xu:rM:=IA1
def JBG:AwF:=BI u2 Xu Aem VB [] Tryz.func130 IA1 [0]
def JA1 (c:Arr):AsO:=fun a=>mk (Ht (Ej ((0+(AxK a.Bc))*40)) (c.bind fun b=>some ⟨a.BO,false,⟨Avq a⟩,b,[],[],0⟩))
def kU:AsO:=JA1 RI
theorem DBZ:Q8 ctx PP 192 RD U8 (u1 kU):=ty0 u1 kU RD U8 [eX] Tryz.func192 JA1
def KA1 (c:Arr):SAh:=fun a=>mk (Ht (Ej ((0+a.2.2.1.length)*40)) (c.bind fun b=>some ⟨a.1,false,⟨a.2.2.1⟩,b,[],[],0⟩))
def kW:SAh:=KA1 RI
theorem EBZ:Q8 ctx PP 192 AU7 U8 (u1 kW):=ty0 u1 kW AU7 U8 [eX] Tryz.func192 KA1
inductive PAZ where
 |c0 (a:AA) (b:Bool) (d:AA) (e f:Int) (g:AA) (h i:Int) (j:AA) (l:Bool) (n:AA) (o p:Int) (q:AA) (t u:Int) (v:(List BQ)) (w:(List Af)) (x:(List EG)) (y:(List CS)) (aa:(List Int)) (ab:(List AA)) (ac:(List D8)) (ad:(List Ah)) (ae:(List BQ))
 |c1 (a:AA) (b:Bool) (d:AA) (e f:Int) (g:AA) (h i:Int) (j:AA) (l:Bool) (n:AA) (o p:Int) (q:AA) (t u:Int) (v:(List BQ)) (w:(List Af)) (x:(List EG)) (y:(List CS)) (aa:(List Int)) (ab:(List AA)) (ac:(List D8)) (ad:(List Ah)) (ae:(List BQ))
def FBZ:PAZ->AsN
 |.c0 a b d e f g h i j l n o p q t u v w x y aa ab ac ad ae=>(tdo Tryz.f128 510,[vp 0 0,vp 6 384,vp 9 576],[(0,.var [.str a,.bool b,.own 1000002,.str d,li e,.own 1000005,li f,.str g,li h,.own 1000009,.own 1000010,li i,.own 1000012,.own 1000013,.own 1000014,.own 1000015]),(384,.var [.str j,.bool l,.any,.str n,li o,.any,li p,.str q,li t,.any,.any,li u]),(576,.var [.own 1036864]),(1000002,.sl 90 v),(1000005,.sl 76 w),(1000009,.sl 127 x),(1000010,.sl 157 y),(1000012,.sl 3 aa),(1000013,.sl 9 ab),(1000014,.sl 48 ac),(1000015,.sl 78 ad),(1036864,.sl 90 ae)])
 |.c1 a b d e f g h i j l n o p q t u v w x y aa ab ac ad ae=>(tdo Tryz.f128 510,[vp 0 0,vp 6 384,vp 9 576],[(0,.var [.str a,.bool b,.own 1000002,.str d,li e,.own 1000005,li f,.str g,li h,.own 1000009,.own 1000010,li i,.own 1000012,.own 1000013,.own 1000014,.own 1000015]),(384,.var [.str j,.bool l,.own 1000002,.str n,li o,.own 1000005,li p,.str q,li t,.own 1000009,.own 1000010,li u]),(576,.var [.own 1036864]),(1000002,.sl 90 v),(1000005,.sl 76 w),(1000009,.sl 127 x),(1000010,.sl 157 y),(1000012,.sl 3 aa),(1000013,.sl 9 ab),(1000014,.sl 48 ac),(1000015,.sl 78 ad),(1036864,.sl 90 ae)])
def RAl (h:XM) (i:eG) (l:AwE) (m:Aq8) (n:rM) (o:AsO×SAh) (q:Qj) (k:Aw7 PAZ Bg):Yq:=fun a e j=>mk ((h (Arl a) (JD a) e).bind fun d=>(i a.AX.Bc d.1 1 j).bind fun c=>(l c.1 Qw).bind fun f=>(m (Arl a) f.1).bind fun g=>cond (Ny (AxM g.1) (JD a)) ((n a e).bind fun b=>k (.c0 (Arl b) (Js b) (L9 b) (MC b) (MF b) (MG b) (JD b) (MH b) (Arl a) (Js a) (L9 a) (MC a) (MF a) (MG a) (JD a) (MH a) (Nz b) (N7 b) (Qs b) (N9 b) b.Bq (Aw2 b) b.Cm b.CO c.1.Ak)) (k (.c1 (Arl a) (Js a) (L9 a) (MC a) (MF a) (MG a) (JD a) (MH a) (Arl a) (Js a) (L9 a) (MC a) (MF a) (MG a) (JD a) (MH a) (Nz a) (N7 a) (Qs a) (N9 a) a.Bq (Aw2 a) a.Cm a.CO c.1.Ak)))
def kY (a:XM) (b:eG) (c:AwE) (d:Aq8) (e:rM) (f:AsO×SAh) (h:Qj) (k:Aw7 PAZ Bg):Aw7 PAZ Bg
 |.c0 _ _ _ _ _ _ _ _ j l n o p q r s _ _ _ _ t u v w m=>mk ((f.2 (j,l,m,n,o,(),p,q,r,(),(),s)).bind fun i=>Qn (h ⟨i,t,u,v,w⟩ 10 IK))
 |.c1 _ _ _ _ _ _ _ _ j l n o q r s v _ p t u w x y z m=>mk ((f.1 ⟨j,l,⟨m⟩,⟨n,o,p,q,r,s⟩,t,u,v⟩).bind fun i=>Qn (h ⟨i,w,x,y,z⟩ 10 IK))
def aH:AzH PAZ Bg
 |0,_=>none
 |m+1,s=>kY pV xG kQ kS Xu (kU,kW) Vj (aH m) s
def Xv:Yq:=RAl pV xG kQ kS Xu (kU,kW) Vj (aH AY)
def GBZ:AwF:=fy u3 Xv AUt VB [WBE,YBY,HBG,IBG,JBG,fj u1 u1 DBZ EBZ,PAx] Tryz.func128 FBZ kY RAl aH [0]
def LA1 (d:Aqk) (f:OAh):JE:=fun b e=>mk ((d (Ar8 b) e).bind fun a=>cond (!a.2) AxI (cond ((Jb a.1) != 2) AxI ((f b a.1).bind fun c=>some c)))
def Vu:JE:=LA1 RJ uI
def HBZ:AwF:=BI u2 Vu wU FN [qX,KBF] Tryz.func129 LA1
def MA1 (c:Ql):AsO:=fun a=>mk (Ht (Ej ((0+(AxK a.Bc))*40)) ((c (Ar8 a)).bind fun b=>Ht (LU (0+(He a))) (Ht (LU (0+(L8 a))) (some ⟨a.BO,a.CZ,⟨Avq a⟩,b,Md a,ArI a,Fz a⟩))))
def Xx:AsO:=MA1 Yi
def KBG:AwF:=BI u1 Xx RD U8 [ARj] Tryz.func36 MA1
inductive aJ where
 |c0 (a:(List CS)) (b e f:Int) (d:(List CS))
 |c1 (a:(List CS)) (b g:Int) (d:(List CS))
def IBZ:aJ->AsN
 |.c0 a b e f d=>(tdo Tryz.f194 464,[vr 0 157 a,vi 1 b,vi 2 e,vo 7 496,vi 8 f],[(496,.sl 157 d)])
 |.c1 a b g d=>(tdo Tryz.f194 2000,[vr 0 157 a,vi 1 b,vo 7 496,vi 9 g],[(496,.sl 157 d)])
def NA1 (k:Aw7 aJ (List CS)):TAh:=fun a b c=>k (.c0 a b c 0 [])
def kZ (k:Aw7 aJ (List CS)):Aw7 aJ (List CS)
 |.c0 a c e b d=>mk (cond (Ar5 b a.length) (cond (AwT b a.length) (cond (MZ (NK a b).fId c) (cond (AwT b a.length) (cond (LU (d.length+1)) (k (.c0 a c e (Aw6 b) (d++[NK a b]))) none) none) (k (.c0 a c e (Aw6 b) d))) none) (cond (JF e) (cond (LU (d.length+1)) (k (.c1 a c 0 (d++[(⟨c,e⟩:CS)]))) none) (k (.c1 a c 0 d))))
 |.c1 b d a c=>mk (cond (Ar5 a b.length) (cond (AwT a b.length) (cond (Ny (NK b a).fId d) (cond (AwT a b.length) (cond (LU (c.length+1)) (k (.c1 b d (Aw6 a) (c++[NK b a]))) none) none) (k (.c1 b d (Aw6 a) c))) none) (some c))
def Ue:AzH aJ (List CS)
 |0,_=>none
 |m+1,s=>kZ (Ue m) s
def xO:TAh:=NA1 (Ue AY)
def JBZ:AwF:=fy u3 xO Aen Aeo [] Tryz.func194 IBZ kZ NA1 Ue
inductive aK where
 |c0 (af:Int) (ag:Ap) (a:CV) (b:AA) (d:Bool) (e:AA) (f g:Int) (h:AA) (i j:Int) (l:AA) (n:Bool) (o:AA) (p q:Int) (t:AA) (u v:Int) (Py:(List EG)) (w:(List BQ)) (x:(List Af)) (y:(List EG)) (aa:(List CS)) (ab:(List BQ)) (ac:(List Af)) (ad:(List EG)) (ae:(List CS))
 |c1 (ai:Int) (a:CV) (b:AA) (d:Bool) (e:AA) (f g:Int) (h:AA) (i j:Int) (l:AA) (n:Bool) (o:AA) (p q:Int) (t:AA) (u v:Int) (w:(List BQ)) (x:(List Af)) (y:(List EG)) (aa:(List CS)) (ab:(List BQ)) (ac:(List Af)) (ad:(List EG)) (ae:(List CS))
def KBZ:aK->AsN
 |.c0 ag b a d e f g h i j l n o p q t u v w Py x y aa ab ac ad ae af=>(tdo Tryz.f131 251728,[vp 4 256,vp 5 320,vp 8 512,vp 9 576,vo 10 688,vi 11 ag],[(256,.var [.str b.BO,.bool b.CZ,.BG 90 b.Bc.Ak,.str b.AU.Bv,li b.AU.DU,.BG 76 b.AU.AZ,li b.AU.BM,.str b.AU.Dh,li b.AU.fCount,.BG 127 b.BP,.BG 157 b.BD,li b.CW]),(320,.var [li a.Au,li a.EJ,li a.Ag,li a.Aj,.str a.fText,.bool a.CY,.bool a.CX]),(512,.var [.str d,.bool e,.own 1032770,.str f,li g,.own 1032773,li h,.str i,li j,.own 1032777,.own 1032778,li l]),(576,.var [.str n,.bool o,.own 1036866,.str p,li q,.own 1036869,li t,.str u,li v,.own 1036873,.own 1036874,li w]),(688,.sl 127 Py),(1032770,.sl 90 x),(1032773,.sl 76 y),(1032777,.sl 127 aa),(1032778,.sl 157 ab),(1036866,.sl 90 ac),(1036869,.sl 76 ad),(1036873,.sl 127 ae),(1036874,.sl 157 af)])
 |.c1 ai a d e f g h i j l n o p q t u v w x y aa ab ac ad ae af=>(tdo Tryz.f131 251856,[vp 5 320,vp 8 512,vp 9 576,vi 12 ai],[(320,.var [li a.Au,li a.EJ,li a.Ag,li a.Aj,.str a.fText,.bool a.CY,.bool a.CX]),(512,.var [.str d,.bool e,.own 1032770,.str f,li g,.own 1032773,li h,.str i,li j,.own 1032777,.own 1032778,li l]),(576,.var [.str n,.bool o,.own 1036866,.str p,li q,.own 1036869,li t,.str u,li v,.own 1036873,.own 1036874,li w]),(1032770,.sl 90 x),(1032773,.sl 76 y),(1032777,.sl 127 aa),(1032778,.sl 157 ab),(1036866,.sl 90 ac),(1036869,.sl 76 ad),(1036873,.sl 127 ae),(1036874,.sl 157 af)])
def OA1 (i:AsO) (l:Aqk) (g:TAh) (k:Aw7 aK Ap):Yr:=fun c b j e=>mk ((i c).bind fun a=>cond (j != 0) (some a) (cond (b.Au == 1) (Ht (LU ((He a)+1)) (some ⟨a.BO,a.CZ,a.Bc,Ar8 a,(Md a)++[(⟨Aw6 (Fz c),false⟩:EG)],ArI a,Aw6 (Fz c)⟩)) (cond (b.Au == 13) (k (.c0 0 c b IK false IK 0 0 IK 0 0 a.BO a.CZ (Ar8 a).Bv (NM a) (Aqu a) (Tc (Ar8 a)) (Qm a) (Fz a) [] [] [] [] [] (Avq a) (DC (Ar8 a)) (Md a) (ArI a))) (cond (b.Au == 2) (k (.c1 0 b IK false IK 0 0 IK 0 0 a.BO a.CZ (Ar8 a).Bv (NM a) (Aqu a) (Tc (Ar8 a)) (Qm a) (Fz a) [] [] [] [] (Avq a) (DC (Ar8 a)) (Md a) (ArI a))) (cond (b.Au == 5) ((l (Ar8 c) b.Ag).bind fun d=>cond d.2 (cond ((Jb d.1) == 2) (cond (JF e) (cond (MZ e d.1.fNext) ((g (ArI c) d.1.fId (Aw6 e)).bind fun f=>some ⟨a.BO,a.CZ,a.Bc,Ar8 a,Md a,f,Fz a⟩) (some a)) (some a)) (some a)) (some a)) (cond (b.Au == 9) ((g (ArI c) b.Ag (-Awl)).bind fun h=>some ⟨a.BO,a.CZ,a.Bc,Ar8 a,Md a,h,Fz a⟩) (some a)))))))
def lC (a:AsO) (b:Aqk) (c:TAh) (k:Aw7 aK Ap):Aw7 aK Ap
 |.c0 d e g t u v w x y z A h i j l m n o p f B C D E q r F s=>mk (cond (Ar5 d (He e)) (cond (AwT d (He e)) (cond ((Arb (Md e) d ⟨0,false⟩).fId != (AxD g)) (cond (AwT d (He e)) (cond (LU (f.length+1)) (k (.c0 (Aw6 d) e g t u v w x y z A h i j l m n o p (f++[Arb (Md e) d ⟨0,false⟩]) B C D E q r F s)) none) none) (k (.c0 (Aw6 d) e g t u v w x y z A h i j l m n o p f B C D E q r F s))) none) (some ⟨h,i,⟨q⟩,⟨j,l,r,m,n,o⟩,f,s,p⟩))
 |.c1 d f s t u v w x y z g h i j l m n o A B C D p q e r=>mk (cond (Ar5 d e.length) (cond (AwT d e.length) (cond (Arb e d ⟨0,false⟩).QW (cond (AwT d e.length) (k (.c1 (Aw6 d) f s t u v w x y z g h i j l m n o A B C D p q (e.set (BN d) (⟨(Arb e d ⟨0,false⟩).fId,true⟩:EG)) r)) none) (cond (AwT d e.length) (cond (AwT d e.length) (k (.c1 (Aw6 d) f s t u v w x y z g h i j l m n o A B C D p q (e.set (BN d) (⟨(Arb e d ⟨0,false⟩).fId,(Arb e d ⟨0,false⟩).fId == (AxD f)⟩:EG)) r)) none) none)) none) (some ⟨g,h,⟨p⟩,⟨i,j,q,l,m,n⟩,e,r,o⟩))
def Vw:AzH aK Ap
 |0,_=>none
 |m+1,s=>lC Xx RJ xO (Vw m) s
def Uf:Yr:=OA1 Xx RJ xO (Vw AY)
def LBZ:AwF:=fy u4 Uf AUu U8 [KBG,qX,JBZ] Tryz.func131 KBZ lC OA1 Vw
inductive RAZ where
 |c0 (a b:Int) (d:AA) (e f:Int) (g:AA) (h:Bool) (i:AA) (j l:Int) (n:AA) (o p:Int) (q:DW) (t:(List Ah)) (u:(List BQ)) (v:(List Af)) (w:(List EG)) (x:(List CS)) (y:(List Int)) (aa:(List AA)) (ab:(List D8)) (ac:(List Ah))
def MBZ:RAZ->AsN
 |.c0 b d e f g h i j l n o p q a t u v w x y aa ab ac=>(tdo Tryz.f76 4048,[vp 0 0,vi 1 b,vp 5 320,vo 6 432,vi 7 d,vs 8 e,vi 9 f,vi 10 g],[(0,.var [.str h,.bool i,.own 1000002,.str j,li l,.own 1000005,li n,.str o,li p,.own 1000009,.own 1000010,li q,.own 1000012,.own 1000013,.own 1000014,.own 1000015]),(320,.var [li a.BA.Au,li a.BA.EJ,li a.BA.Ag,li a.BA.Aj,.str a.BA.fText,.bool a.BA.CY,.bool a.BA.CX,.bool a.Nr,.BG 3 a.Lc,.bool a.JY]),(432,.sl 78 t),(1000002,.sl 90 u),(1000005,.sl 76 v),(1000009,.sl 127 w),(1000010,.sl 157 x),(1000012,.sl 3 y),(1000013,.sl 9 aa),(1000014,.sl 48 ab),(1000015,.sl 78 ac)])
def lD (d:Qj) (i:AsE) (j:Yq) (f:JE) (l:GAU) (m:Qr) (n:rM) (o:Yr) (k:Aw7 RAZ Bg):Aqm:=fun a g c=>mk (cond (!(Js a)) (Qn (d a 9 ⟨#[100,111,119,110]⟩)) (cond ((JD a)>=10000) (Qn (d a 9 ⟨#[100,111,119,110]⟩)) ((i a.AX c.BA).bind fun b=>cond c.Nr (cond (Arf (AxM b.1)) (cond (VI Qa (AxM b.1)) (Qn (j a (b.1.getD (BN Qa) (⟨0,IK,0,⟨0,0,false,false,false,false,IK,0⟩⟩:Ah)) c.Lc)) none) ((f a.AX c.BA.Ag).bind fun e=>k (.c0 g b.2.1 b.2.2 e 0 (Arl a) (Js a) (L9 a) (MC a) (MF a) (MG a) (JD a) (MH a) c b.1 (Nz a) (N7 a) (Qs a) (N9 a) a.Bq (Aw2 a) a.Cm a.CO))) ((f a.AX c.BA.Ag).bind fun h=>k (.c0 g b.2.1 b.2.2 h 0 (Arl a) (Js a) (L9 a) (MC a) (MF a) (MG a) (JD a) (MH a) c b.1 (Nz a) (N7 a) (Qs a) (N9 a) a.Bq (Aw2 a) a.Cm a.CO)))))
def SAl (a:Qj) (b:AsE) (c:Yq) (d:JE) (e:GAU) (f:Qr) (g:rM) (h:Yr) (k:Aw7 RAZ Bg):Aw7 RAZ Bg
 |.c0 J n r w j u F A B D E v I s l y C G H o p m q=>mk (cond (Ar5 j l.length) (cond (AwT j l.length) ((e u ⟨y⟩ v (AwP l j IK ⟨0,0,false,false,false,false,IK,0⟩)).bind fun x=>cond (AwT j l.length) ((f ⟨A,B,C,D,E,v⟩ (AwP l j IK ⟨0,0,false,false,false,false,IK,0⟩)).bind fun z=>cond (AwT j l.length) ((g ⟨⟨u,F,x,z.1,G,H,I⟩,o,p,m,q⟩ (AwP l j IK ⟨0,0,false,false,false,false,IK,0⟩)).bind fun i=>k (.c0 J n r w (Aw6 j) (Arl i) (Js i) (L9 i) (MC i) (MF i) (MG i) (JD i) (MH i) s l (Nz i) (N7 i) (Qs i) (N9 i) i.Bq (Aw2 i) i.Cm i.CO)) none) none) none) ((h ⟨u,F,⟨y⟩,⟨A,B,C,D,E,v⟩,G,H,I⟩ s.BA n w).bind fun t=>cond (s.BA.Au == 5) (cond (EF n) (cond (Ej ((0+m.length)*24)) (cond (Ej ((m.length+1)*24)) (Qn (a ⟨t,o,p,m++[(⟨s.BA.Ag,w,J⟩:D8)],q⟩ n r)) none) none) (Qn (a ⟨t,o,p,m,q⟩ n r))) (Qn (a ⟨t,o,p,m,q⟩ n r))))
def lF:AzH RAZ Bg
 |0,_=>none
 |m+1,s=>SAl Vj PI Xv Vu aO QL Xu Uf (lF m) s
def Ug:Aqm:=lD Vj PI Xv Vu aO QL Xu Uf (lF AY)
def NBZ:AwF:=fy u3 Ug AUv VB [PAx,VBY,GBZ,HBZ,YBE,DAj,JBG,LBZ] Tryz.func76 MBZ SAl lD lF [0]
inductive SAZ where
 |c0 (a:Int) (b d:Bo)
def OBZ:SAZ->AsN
 |.c0 d a b=>(tdo Tryz.f51 464,[vp 2 128,vp 3 192,vi 5 d],[(128,.var [.str a.Bv,li a.DU,.BG 76 a.AZ,li a.BM,.str a.Dh,li a.fCount]),(192,.var [.str b.Bv,li b.DU,.BG 76 b.AZ,li b.BM,.str b.Dh,li b.fCount])])
def PA1 (k:Aw7 SAZ Bool):VJ:=fun a b=>mk (cond (!(EU a.Bv b.Bv)) (some false) (cond (a.DU != b.DU) (some false) (cond (a.BM != b.BM) (some false) (cond (!(EU (Tc a) (Tc b))) (some false) (cond (a.fCount != b.fCount) (some false) (cond ((Aww a) != (Aww b)) (some false) (k (.c0 0 a b))))))))
def TAl (k:Aw7 SAZ Bool):Aw7 SAZ Bool
 |.c0 a b c=>mk (cond (Ar5 a (Oi b)) (cond (AwT a (Oi b)) (cond (AwT a (Oi c)) (cond (!(((Eb (DC b) a ⟨0,0,false,false,false,false,IK,0⟩).fId == (Eb (DC c) a ⟨0,0,false,false,false,false,IK,0⟩).fId) && (((Jb (Eb (DC b) a ⟨0,0,false,false,false,false,IK,0⟩)) == (Jb (Eb (DC c) a ⟨0,0,false,false,false,false,IK,0⟩))) && (((AqY (Eb (DC b) a ⟨0,0,false,false,false,false,IK,0⟩)) == (AqY (Eb (DC c) a ⟨0,0,false,false,false,false,IK,0⟩))) && (((Em (Eb (DC b) a ⟨0,0,false,false,false,false,IK,0⟩)) == (Em (Eb (DC c) a ⟨0,0,false,false,false,false,IK,0⟩))) && (((FK (Eb (DC b) a ⟨0,0,false,false,false,false,IK,0⟩)) == (FK (Eb (DC c) a ⟨0,0,false,false,false,false,IK,0⟩))) && (((Ari (Eb (DC b) a ⟨0,0,false,false,false,false,IK,0⟩)) == (Ari (Eb (DC c) a ⟨0,0,false,false,false,false,IK,0⟩))) && ((EU (Aqz (Eb (DC b) a ⟨0,0,false,false,false,false,IK,0⟩)) (Aqz (Eb (DC c) a ⟨0,0,false,false,false,false,IK,0⟩))) && (((Eb (DC b) a ⟨0,0,false,false,false,false,IK,0⟩).fNext == (Eb (DC c) a ⟨0,0,false,false,false,false,IK,0⟩).fNext) && true))))))))) (some false) (k (.c0 (Aw6 a) b c))) none) none) (some true))
def lH:AzH SAZ Bool
 |0,_=>none
 |m+1,s=>TAl (lH m) s
def lG:VJ:=PA1 (lH AY)
def LBG:AwF:=fy u2 lG AUw E8 [] Tryz.func51 OBZ TAl PA1 lH
inductive TAZ where
 |c0 (a:(List Ah)) (b:Int) (d:AA) (e f:Int) (g:AA) (h:Int) (i:AA) (j l:Int) (n:AA) (o:Int) (p q:(List Af))
def PBZ:TAZ->AsN
 |.c0 a b d e f g h i j l n o p q=>(tdo Tryz.f49 464,[vr 1 78 a,vp 4 256,vp 6 384,vi 7 b],[(256,.var [.str d,li e,.own 1016386,li f,.str g,li h]),(384,.var [.str i,li j,.own 1024578,li l,.str n,li o]),(1016386,.sl 76 p),(1024578,.sl 76 q)])
def QA1 (b:Ql) (e:Qr) (k:Aw7 TAZ (Bo×Bool)):Yu:=fun c d=>mk ((b c).bind fun a=>k (.c0 d 0 IK 0 0 IK 0 a.Bv a.DU a.BM (Tc a) a.fCount [] (DC a)))
def UAl (a:Ql) (b:Qr) (k:Aw7 TAZ (Bo×Bool)):Aw7 TAZ (Bo×Bool)
 |.c0 e d m n o p q f g i j l r h=>mk (cond (Ar5 d e.length) (cond (AwT d e.length) ((b ⟨f,g,h,i,j,l⟩ (AwP e d IK ⟨0,0,false,false,false,false,IK,0⟩)).bind fun c=>cond (!c.2) (some (Mc,false)) (k (.c0 e (Aw6 d) m n o p q c.1.Bv c.1.DU c.1.BM (Tc c.1) c.1.fCount r (DC c.1)))) none) (some (⟨f,g,h,i,j,l⟩,true)))
def lI:AzH TAZ (Bo×Bool)
 |0,_=>none
 |m+1,s=>UAl Yi QL (lI m) s
def xQ:Yu:=QA1 Yi QL (lI AY)
def MBG:AwF:=fy u2 xQ AUx AEm [ARj,DAj] Tryz.func49 PBZ UAl QA1 lI
def RA1 (h:Arj) (i:AwE) (j:Aq8) (m:Arr) (n:Yu) (o:ArW):RV:=fun l d=>mk ((h d).bind fun e=>cond (!e) (some (Mc,[],false)) ((i d Qw).bind fun a=>(j l a.1).bind fun b=>m.bind fun f=>(n f b.1).bind fun c=>cond (!c.2) (some (Mc,[],false)) ((o d Tt).bind fun g=>cond (JF g) (cond (MZ b.2 (BF a.1)) (cond (GL b.2 (BF a.1)) (some (c.1,YAu a.1 b.2,true)) none) (some (c.1,[⟨4,Tt,IK,IK⟩],true))) (cond (MZ b.2 (BF a.1)) (cond (GL b.2 (BF a.1)) (some (c.1,[⟨1,Tt,Arz a.1 b.2,IK⟩,⟨2,Tt,IK,IK⟩,⟨3,Tt,IK,Qw⟩],true)) none) (some (c.1,[],true))))))
def aP:RV:=RA1 WT kQ kS RI xQ pY
def SA1:AwF:=BI u2 aP AUy AUz [MAj,HBG,IBG,eX,MBG,TAw] Tryz.func52 RA1
inductive VAZ where
 |c0 (a:Int) (b:Ap)
def QBZ:VAZ->AsN
 |.c0 b a=>(tdo Tryz.f87 208,[vp 1 64,vi 3 b],[(64,.var [.str a.BO,.bool a.CZ,.BG 90 a.Bc.Ak,.str a.AU.Bv,li a.AU.DU,.BG 76 a.AU.AZ,li a.AU.BM,.str a.AU.Dh,li a.AU.fCount,.BG 127 a.BP,.BG 157 a.BD,li a.CW])])
def TA1 (b:Aqk) (c:AwU) (k:Aw7 VAZ Bool):Om:=fun a=>k (.c0 0 a)
def VAl (a:Aqk) (b:AwU) (k:Aw7 VAZ Bool):Aw7 VAZ Bool
 |.c0 c d=>mk (cond (Ar5 c (L8 d)) (cond (AwT c (L8 d)) ((a (Ar8 d) (NK (ArI d) c).fId).bind fun e=>cond (!e.2) (some false) (cond ((Jb e.1) != 2) (some false) (cond (AwT c (L8 d)) ((b (NK (ArI d) c).fNext 0 e.1.fNext).bind fun f=>cond (!f) (some false) (cond (Arf c) (cond (Avx (Awm c) (L8 d:Int)) (cond (AwT c (L8 d)) (cond (AwL ((ArI d).getD (AxJ (c - 1)) FAi).fId (NK (ArI d) c).fId) (some false) (k (.c0 (Aw6 c) d))) none) none) (k (.c0 (Aw6 c) d)))) none))) none) (some true))
def lJ:AzH VAZ Bool
 |0,_=>none
 |m+1,s=>VAl RJ Je (lJ m) s
def xW:Om:=TA1 RJ Je (lJ AY)
def RBZ:AwF:=fy u1 xW RD E8 [qX,JV] Tryz.func87 QBZ VAl TA1 lJ
inductive XAZ where
 |c0 (a:Int) (b:Ap)
def SBZ:XAZ->AsN
 |.c0 b a=>(tdo Tryz.f44 464,[vp 1 64,vi 3 b],[(64,.var [.str a.BO,.bool a.CZ,.BG 90 a.Bc.Ak,.str a.AU.Bv,li a.AU.DU,.BG 76 a.AU.AZ,li a.AU.BM,.str a.AU.Dh,li a.AU.fCount,.BG 127 a.BP,.BG 157 a.BD,li a.CW])])
def UA1 (d:Arj) (e:AwU) (f:Arr) (g:VJ) (h:RV) (i:AsK) (j:Om) (k:Aw7 XAZ Bool):Om:=fun a=>mk (cond ((BF a.BO) != 32) (some false) ((d a.Bc).bind fun b=>cond (!b) (some false) (cond ((He a:Int) > 3) (some false) ((e (Fz a) 0 1000).bind fun c=>cond (!c) (some false) (k (.c0 0 a))))))
def WAl (a:Arj) (b:AwU) (c:Arr) (d:VJ) (e:RV) (f:AsK) (g:Om) (k:Aw7 XAZ Bool):Aw7 XAZ Bool
 |.c0 i h=>mk (cond (Ar5 i (He h)) (cond (AwT i (He h)) ((b (Arb (Md h) i ⟨0,false⟩).fId 1 (Fz h)).bind fun l=>cond (!l) (some false) (cond (Arf i) (cond (Avx (Awm i) (He h:Int)) (cond (AwT i (He h)) (cond (AwL ((Md h).getD (AxJ (i - 1)) (⟨0,false⟩:EG)).fId (Arb (Md h) i ⟨0,false⟩).fId) (some false) (k (.c0 (Aw6 i) h))) none) none) (k (.c0 (Aw6 i) h)))) none) (Aws (!h.CZ) (Aws (EF (He h:Int)) (Aws (EF (L8 h:Int)) (c.bind fun m=>Aqr (d (Ar8 h) m)) (some false)) (some false)) ((e h.BO h.Bc).bind fun j=>Aws j.2.2 (Aws (EF (Qi j.2.1)) (Aqs (f (Ar8 h)) (Aqs (d j.1 (Ar8 h)) (Aqr (g h)) (some false)) (some false)) (some false)) (some false))))
def lK:AzH XAZ Bool
 |0,_=>none
 |m+1,s=>WAl WT Je RI lG aP dS xW (lK m) s
def XAl:Om:=UA1 WT Je RI lG aP dS xW (lK AY)
def TBZ:AwF:=fy u1 XAl RD E8 [MAj,JV,eX,LBG,SA1,PBE,RBZ] Tryz.func44 SBZ WAl UA1 lK
def VA1 (e:Om) (f:RV) (g:VH):rO:=fun a=>mk (cond a.CZ (some (⟨IK,false,IZ,Mc,[],[],0⟩,false)) ((e a).bind fun d=>cond (!d) (some (⟨IK,false,IZ,Mc,[],[],0⟩,false)) ((f a.BO a.Bc).bind fun b=>(g a.Bc b.2.1).bind fun c=>cond (!b.2.2) (some (⟨IK,false,IZ,Mc,[],[],0⟩,false)) (cond (MZ c.2 (Qi b.2.1)) (some (⟨IK,false,IZ,Mc,[],[],0⟩,false)) (some (⟨a.BO,true,c.1,b.1,[],[],0⟩,true))))))
def xX:rO:=VA1 XAl aP qB
def UBZ:AwF:=BI u1 xX RD AEn [TBZ,SA1,YAw] Tryz.func77 VA1
def YAl (e:Aqm) (g:rO) (d:Qj):Aqm:=fun a f c=>mk (cond (!c.JY) (Qn (e a f c)) ((g a.AX).bind fun b=>cond (!b.2) (Qn (d a 1 IK)) (Qn (d ⟨b.1,a.Bq,Aw2 a,a.Cm,a.CO⟩ 0 IK))))
def RH:Aqm:=YAl Ug xX Vj
def NBG:AwF:=BI u3 RH AUv VB [NBZ,UBZ,PAx] Tryz.func35 YAl [0]
inductive ZAZ where
 |c0 (a b:Int) (d e:Int) (f g:AA) (h i j:AA) (l:Bool) (n:AA) (o p:Int) (q:AA) (t u:Int) (v w:(List DW)) (x:(List BQ)) (y:(List Af)) (aa:(List EG)) (ab:(List CS)) (ac:(List Int)) (ad:(List AA)) (ae:(List D8)) (af:(List Ah))
def VBZ:ZAZ->AsN
 |.c0 a b d e f g h i j l n o p q t u v w x y aa ab ac ad ae af=>(tdo Tryz.f26 4048,[vp 0 0,vp 4 256,vp 5 320,vp 6 384,vi 8 a,vi 9 b],[(0,.var [.J4,li d,li e]),(256,.var [.str f,.str g,.own 1016386]),(320,.var [.str h,.str i,.own 1020482]),(384,.var [.str j,.bool l,.own 1024578,.str n,li o,.own 1024581,li p,.str q,li t,.own 1024585,.own 1024586,li u,.own 1024588,.own 1024589,.own 1024590,.own 1024591]),(1016386,.sl 72 v),(1020482,.sl 72 w),(1024578,.sl 90 x),(1024581,.sl 76 y),(1024585,.sl 127 aa),(1024586,.sl 157 ab),(1024588,.sl 3 ac),(1024589,.sl 9 ad),(1024590,.sl 48 ae),(1024591,.sl 78 af)])
def WA1 (d:AwJ) (f:Yv) (g:qW) (h:NAh) (i:Aqm) (k:Aw7 ZAZ (PO×DZ)):ARH:=fun e j=>mk ((d (Ia e) 3).bind fun b=>(f 32 (w8 (Ad (75+b.1)))).bind fun c=>(g c ⟨#[119]⟩).bind fun a=>cond ((Ad (8+(Ad ((NZ KI).tdiv 12)))) > 39) (k (.c0 39 0 b.2.fI b.2.AyA IK IK c ⟨#[119]⟩ (Arl a.1) (Js a.1) (L9 a.1) (MC a.1) (MF a.1) (MG a.1) (JD a.1) (MH a.1) [] [] (Nz a.1) (N7 a.1) (Qs a.1) (N9 a.1) a.1.Bq (Aw2 a.1) a.1.Cm a.1.CO)) (k (.c0 (Ad (8+(Ad ((NZ KI).tdiv 12)))) 0 b.2.fI b.2.AyA IK IK c ⟨#[119]⟩ (Arl a.1) (Js a.1) (L9 a.1) (MC a.1) (MF a.1) (MG a.1) (JD a.1) (MH a.1) [] [] (Nz a.1) (N7 a.1) (Qs a.1) (N9 a.1) a.1.Bq (Aw2 a.1) a.1.Cm a.1.CO)))
def ZAl (a:AwJ) (b:Yv) (c:qW) (d:NAh) (e:Aqm) (k:Aw7 ZAZ (PO×DZ)):Aw7 ZAZ (PO×DZ)
 |.c0 l i o p q r m n t u w x z A B E s j v y C D F G H I=>mk (cond (MZ i l) ((d ⟨(),o,p⟩ ⟨⟨t,u,⟨v⟩,⟨w,x,y,z,A,B⟩,C,D,E⟩,F,G,H,I⟩).bind fun h=>cond ((BF h.1.BA.fText) > 1000) ((e h.2.2 i (UAu h)).bind fun f=>cond (Ej ((j.length+1)*96)) (k (.c0 l (Aw6 i) h.2.1.fI h.2.1.AyA q r m n (Arl f) (Js f) (L9 f) (MC f) (MF f) (MG f) (JD f) (MH f) s (j++[(UAu h:DW)]) (Nz f) (N7 f) (Qs f) (N9 f) f.Bq (Aw2 f) f.Cm f.CO)) none) ((e h.2.2 i h.1).bind fun g=>cond (Ej ((j.length+1)*96)) (k (.c0 l (Aw6 i) h.2.1.fI h.2.1.AyA q r m n (Arl g) (Js g) (L9 g) (MC g) (MF g) (MG g) (JD g) (MH g) s (j++[h.1]) (Nz g) (N7 g) (Qs g) (N9 g) g.Bq (Aw2 g) g.Cm g.CO)) none)) (some (⟨m,n,j⟩,⟨(),o,p⟩)))
def X4:AzH ZAZ (PO×DZ)
 |0,_=>none
 |m+1,s=>ZAl AsP dH aV tZ RH (X4 m) s
def AFW:ARH:=WA1 AsP dH aV tZ RH (X4 AY)
def WBZ:AwF:=fy u2 AFW Aep Aeq [fZ,CBE,ZBE,KBV,NBG] Tryz.func26 VBZ ZAl WA1 X4 [0]
def XA1 (c:PAt) (d:ARH):BAu:=fun e=>mk ((c ()).bind fun b=>(d (Ia b) ()).bind fun a=>some (a.1.BO,a.1.Bv,a.1.wG))
def BAm:BAu:=XA1 PAi AFW
def XBZ:AwF:=BI u1 BAm wY Aer [PBT,WBZ] Tryz.func7 XA1
def OBG:AsG:=mk (Ld WAu)
def YA1:AsG:=OBG
def YBZ:AwF:=BI u0 YA1 Yc AEe [] Tryz.func63 OBG
def ZA1:CG:=fun a=>mk (AwZ ((HAi a) && (Ej ((BN a)*1))) (ArO (Qp a)))
def X9:CG:=ZA1
def CAm:AwF:=BI u1 X9 FN Cc [] Tryz.func89 ZA1
def AQE:CG:=fun a=>mk (ArO [w8 (VX a (24:Int)),w8 (VX a (16:Int)),w8 (VX a (8:Int)),w8 a])
def WU:CG:=AQE
def DAm:AwF:=BI u1 WU UG Cc [] Tryz.func110 AQE
def BA2 (c:CG):CG:=fun d=>mk ((c (w32 (Av4 d (Awk (32:Int))))).bind fun a=>(c (w32 d)).bind fun b=>AwZ (AwC a b) (some (a++b)))
def EAm:CG:=BA2 WU
def ZBZ:AwF:=BI u1 EAm FN Cc [DAm] Tryz.func109 BA2
def CA2 (d e:CG):CG:=fun c=>mk ((d ((Ad (119 - (c.tmod 64))).tmod 64)).bind fun a=>AwZ (AwC (Awx ⟨#[128]⟩) a) ((e (Ad (8*c))).bind fun b=>AwZ (ArC (Awx ⟨#[128]⟩) a b) (some (((Awx ⟨#[128]⟩)++a)++b))))
def FAm:CG:=CA2 X9 EAm
def An4:AwF:=BI u1 FAm FN Cc [CAm,ZBZ] Tryz.func64 CA2
def DA2:Fe:=fun b a=>mk (cond (Sl (Avw (32 - (IAi a)))) (some (w32 (ZI Jd (w32 (b*(Aq3 (BN (IAi a)) Jd))) (VX b (Avw (32 - (IAi a))))))) none)
def GAm:Fe:=DA2
def BBa:AwF:=BI u2 GAm AU0 UG [] Tryz.func221 DA2
def EA2 (b:Fe):Fe:=fun c d=>mk ((b c (Ad (0 - d))).bind fun a=>some a)
def Av9:Fe:=EA2 GAm
def PBG:AwF:=BI u2 Av9 AU0 UG [BBa] Tryz.func159 EA2
inductive AB3 where
 |c0 (d:AA) (e:Int) (a b:(List Int))
 |c1 (d:AA) (f e g:Int) (a b:(List Int))
 |c2 (h:Int) (a b:(List Int))
def CBa:AB3->AsN
 |.c0 d e a b=>(tdo Tryz.f158 232,[vs 0 d,vp 2 128,vp 3 192,vi 11 e],[(128,.ar 108 a),(192,.ar 108 b)])
 |.c1 d f e g a b=>(tdo Tryz.f158 59800,[vs 0 d,vp 2 128,vp 3 192,vi 4 f,vi 11 e,vi 14 g],[(128,.ar 108 a),(192,.ar 108 b)])
 |.c2 h a b=>(tdo Tryz.f158 976,[vp 2 128,vp 3 192,vi 6 h],[(128,.ar 108 a),(192,.ar 108 b)])
def FA2 (b:Fe) (k:Aw7 AB3 (List Int)):H6:=fun a=>mk (k (.c0 a 0 (List.replicate 64 Qa) (List.replicate 64 Qa)))
def Yl (a:Fe) (k:Aw7 AB3 (List Int)):Aw7 AB3 (List Int)
 |.c0 e b c d=>mk (cond (b<16) (k (.c1 e b b 0 c d)) (k (.c2 16 c d)))
 |.c1 e c f d g b=>mk (cond (d<4) (cond (Aqc b) (cond (AsI c b) (cond (Avx (Aw3 (Ad (4*c)) d) (BF e)) (cond (Aqc b) (cond (AsI c b) (k (.c1 e c f (Aw6 d) g (b.set (BN c) (w32 (ZI Jd (w32 ((Arn b c)*(Aq3 (BN (8:Int)) Jd))) (w32 (bt e (Aw3 (Ad (4*c)) d)))))))) none) none) none) none) none) (k (.c0 e (Aw6 f) g b)))
 |.c2 c h b=>mk (cond (c<64) (cond (Aqc b) (cond (Awe (c - 15) b) (cond (Aqc b) (cond (Awe (c - 2) b) ((a (Ud b (c - 15)) 7).bind fun d=>(a (Ud b (c - 15)) 18).bind fun e=>(a (Ud b (c - 2)) 17).bind fun f=>(a (Ud b (c - 2)) 19).bind fun g=>cond (Aqc b) (cond (Awe (c - 7) b) (cond (Aqc b) (cond (Awe (c - 16) b) (cond (Aqc b) (cond (AsI c b) (k (.c2 (Aw6 c) h (b.set (BN c) (w32 ((w32 ((w32 ((Aqb Jd (Aqb Jd f g) (Av4 (Ud b (c - 2)) (Aq3 (BN (10:Int)) Jd)))+(Ud b (c - 7))))+(Aqb Jd (Aqb Jd d e) (Av4 (Ud b (c - 15)) (Aq3 (BN (3:Int)) Jd)))))+(Ud b (c - 16))))))) none) none) none) none) none) none) none) none) none) none) (Arv (Aqc b) (Arv ((Rl b h) && (Aqc b)) (Arv ((Aqc b) && true) (Ld b)))))
def Po:AzH AB3 (List Int)
 |0,_=>none
 |m+1,s=>Yl Av9 (Po m) s
def zY:H6:=FA2 Av9 (Po AY)
def DBa:AwF:=fy u1 zY Cc AEe [PBG] Tryz.func158 CBa Yl FA2 Po
inductive CAa where
 |c0 (d e:Int) (f g:Int) (h i:Int) (j l n:Int) (a b o:(List Int))
 |c1 (p:Int) (a b q:(List Int))
def EBa:CAa->AsN
 |.c0 d e f g h i j l n a b o=>(tdo Tryz.f108 488,[vp 2 128,vp 4 256,vp 5 320,(6,[.one (.int .u32 d)]),(7,[.one (.int .u32 e)]),(8,[.one (.int .u32 f)]),(9,[.one (.int .u32 g)]),(10,[.one (.int .u32 h)]),(11,[.one (.int .u32 i)]),(12,[.one (.int .u32 j)]),(13,[.one (.int .u32 l)]),vi 37 n],[(128,.ar 108 a),(256,.ar 108 b),(320,.ar 108 o)])
 |.c1 p a b q=>(tdo Tryz.f108 2024,[vp 2 128,vp 4 256,vp 17 1088,vi 109 p],[(128,.ar 108 a),(256,.ar 108 b),(1088,.ar 108 q)])
def GA2 (c:H6) (e:Fe) (k:Aw7 CAa (List Int)):UAh:=fun a d=>mk ((c d).bind fun b=>cond ((Rl b (List.replicate 64 Qa)) && (Aqc b)) (cond (JG a) (cond (Av8 a) (cond (JG a) (cond (GAV (NZ a)) (cond (JG a) (cond (CAV (NZ a)) (cond (JG a) (cond ((AwQ Qa (3:Int)) && (decide (3<(NZ a)))) (cond (JG a) (cond (DAV a) (cond (JG a) (cond ((AwQ Qa (5:Int)) && (decide (5<(NZ a)))) (cond (JG a) (cond ((AwQ Qa (6:Int)) && (decide (6<(NZ a)))) (cond (JG a) (cond ((AwQ Qa (7:Int)) && (decide (7<(NZ a)))) (k (.c0 (Arn a Qa) (Arn a Awl) (Arn a (2:Int)) (Arn a (3:Int)) (Arn a Aw9) (Arn a (5:Int)) (Arn a (6:Int)) (Arn a (7:Int)) 0 a [0,0,0,0,0,0,0,0] b)) none) none) none) none) none) none) none) none) none) none) none) none) none) none) none) none) none)
def zZ (a:H6) (b:Fe) (k:Aw7 CAa (List Int)):Aw7 CAa (List Int)
 |.c0 e i j s d g h o c t u f=>mk (cond (c<64) ((b d 6).bind fun l=>(b d 11).bind fun m=>(b d 25).bind fun n=>cond (AwT c (64:Nat)) (cond (Nat.blt (BN c) 64) (cond (Aqc f) (cond (AsI c f) ((b e 2).bind fun p=>(b e 13).bind fun q=>(b e 22).bind fun r=>k (.c0 (w32 ((w32 ((w32 ((w32 ((w32 (o+(Aqb Jd (Aqb Jd l m) n)))+(fJ (Ot Jd d g) (Ot Jd (w32 ((BitVec.toNat ((BitVec.ofInt Jd (ite ((IntKind.signed IntKind.u32) = true) (-Awl) (IntKind.max IntKind.u32))) ^^^ (BitVec.ofInt Jd d)):Nat):Int)) h))))+(Arn OAu c)))+(Arn f c)))+(w32 ((Aqb Jd (Aqb Jd p q) r)+(fJ (Ii Jd (w32 (Ot Jd e i)) (w32 (Ot Jd e j))) (Ot Jd i j)))))) e i j (w32 (s+(w32 ((w32 ((w32 ((w32 (o+(Aqb Jd (Aqb Jd l m) n)))+(fJ (Ot Jd d g) (Ot Jd (w32 ((BitVec.toNat ((BitVec.ofInt Jd (ite ((IntKind.signed IntKind.u32) = true) (-Awl) (IntKind.max IntKind.u32))) ^^^ (BitVec.ofInt Jd d)):Nat):Int)) h))))+(Arn OAu c)))+(Arn f c))))) d g h (Aw6 c) t u f)) none) none) none) none) (k (.c1 0 t u [e,i,j,s,d,g,h,o])))
 |.c1 d e f c=>mk (cond (d<8) (cond (JG c) (cond (AsI d c) (cond (JG e) (cond (AsI d e) (cond (JG c) (cond (AsI d c) (k (.c1 (Aw6 d) e f (c.set (BN d) (w32 ((Arn c d)+(Arn e d)))))) none) none) none) none) none) none) (Arv (JG c) (Arv ((Rl c f) && (JG c)) (Arv ((JG c) && true) (Ld c)))))
def Awq:AzH CAa (List Int)
 |0,_=>none
 |m+1,s=>zZ zY Av9 (Awq m) s
def zf:UAh:=GA2 zY Av9 (Awq AY)
def FBa:AwF:=fy u2 zf AKl AEe [DBa,PBG] Tryz.func108 EBa zZ GA2 Awq
inductive FAa where
 |c0 (a:AA) (b d:(List Int))
def GBa:FAa->AsN
 |.c0 a b d=>(tdo Tryz.f62 96,[vs 1 a,vp 2 128,vp 4 256],[(128,.ar 108 b),(256,.ar 108 d)])
def IA2 (c:UAh) (k:Aw7 FAa (List Int×AA)):CAu:=fun b a=>k (.c0 a b [0,0,0,0,0,0,0,0])
def HAm (a:UAh) (k:Aw7 FAa (List Int×AA)):Aw7 FAa (List Int×AA)
 |.c0 c b e=>mk (cond ((BF c)>=64) (cond (JG b) (cond ((AwQ Qa (64:Int)) && (decide (64<=(BF c)))) ((a b (Arz c (64:Int))).bind fun d=>cond ((Rl d b) && (JG d)) (cond ((AwQ Qa (64:Int)) && (decide (64<=(BF c)))) (k (.c0 (Aqq c (64:Int)) d e)) none) none) none) none) (cond (JG b) (cond ((Rl b e) && (JG b)) (cond ((JG b) && true) (some (b,c)) none) none) none))
def qE:AzH FAa (List Int×AA)
 |0,_=>none
 |m+1,s=>HAm zf (qE m) s
def IAm:CAu:=IA2 zf (qE AY)
def HBa:AwF:=fy u2 IAm AKl AKl [FBa] Tryz.func62 GBa HAm IA2 qE
inductive GAa where
 |c0 (a:AA) (b:(List Int)) (d:Int)
def IBa:GAa->AsN
 |.c0 a b d=>(tdo Tryz.f65 232,[vs 3 a,(6,[.arr 108 b]),vi 7 d],[])
def JA2 (b:CG) (k:Aw7 GAa AA):Ie:=fun a=>mk (cond (JG a) (k (.c0 IK a 0)) none)
def KA2 (a:CG) (k:Aw7 GAa AA):Aw7 GAa AA
 |.c0 e c b=>mk (cond (b<8) (cond (JG c) (cond (AsI b c) ((a (Arn c b)).bind fun d=>cond (AwC e d) (k (.c0 (e++d) c (Aw6 b))) none) none) none) (some e))
def zh:AzH GAa AA
 |0,_=>none
 |m+1,s=>KA2 WU (zh m) s
def JAm:Ie:=JA2 WU (zh AY)
def JBa:AwF:=fy u1 JAm AEe Cc [DAm] Tryz.func65 IBa KA2 JA2 zh
def LA2 (e:AsG) (f:CG) (g:CAu) (h:Ie):RZ:=fun c=>mk (e.bind fun d=>(f (BF c)).bind fun b=>AwZ (AwC c b) ((g d (c++b)).bind fun a=>AwZ ((Nat.beq a.1.length 8) && (JG a.1)) (AwZ (JG a.1) (Awi (h a.1)))))
def JQ:RZ:=LA2 YA1 FAm IAm JAm
def RU:AwF:=BI u1 JQ Cc Cc [YBZ,An4,HBa,JBa] Tryz.func30 LA2
def MA2 (c:RZ) (d:CG):Arr:=mk ((c IK).bind fun a=>(d 32).bind fun b=>some ⟨a,0,[],0,b,0⟩)
def Av2:Arr:=MA2 JQ X9
def qV:AwF:=BI u0 Av2 Yc AEk [RU,CAm] Tryz.func46 MA2
inductive IAa where
 |c0 (a:Int) (b:(List Int))
def KBa:IAa->AsN
 |.c0 a b=>(tdo Tryz.f144 224,[vi 0 a,vo 3 240],[(240,.sl 5 b)])
def QBG (k:Aw7 IAa AA):CG:=fun a=>k (.c0 a [])
def KAm (k:Aw7 IAa AA):Aw7 IAa AA
 |.c0 a b=>mk (cond (a > 127) (cond (NS b) (k (.c0 (Ad (a.tdiv 128)) (b++[w8 (Ad (128+(a.tmod 128)))]))) none) (AwZ (NS b) (ArO (b++[w8 a]))))
def qM:AzH IAa AA
 |0,_=>none
 |m+1,s=>KAm (qM m) s
def WX:CG:=QBG (qM AY)
def gB:AwF:=fy u1 WX FN Cc [] Tryz.func144 KBa KAm QBG qM
def RBG:AwU:=fun a b c=>mk (Aws (AwL a b) (some (AwQ a c)) (some false))
def Fv:AwU:=RBG
def Jp:AwF:=BI u3 Fv AVC E8 [] Tryz.func82 RBG
def NA2 (c:AwU):OD:=fun a=>mk ((c a.fId 1 1000).bind fun b=>Aws (!b) (some false) ((c a.fNext 0 16).bind fun d=>Aws (!d) (some false) (Aws ((Jb a) != 2) (Aws (a.fNext != 0) (some false) (Aws (FK a) (some false) (Aws ((Jb a) != 1) (Aws (Ari a) (some false) (QAU a (Jb a) (Awc (Aqz a)) ((Jb a) == 3) (rP a) (some false))) (QAU a (Jb a) (Awc (Aqz a)) ((Jb a) == 3) (rP a) (some false))))) (Aws ((Jb a) != 1) (Aws (Ari a) (some false) (QAU a (Jb a) (Awc (Aqz a)) ((Jb a) == 3) (rP a) (some false))) (QAU a (Jb a) (Awc (Aqz a)) ((Jb a) == 3) (rP a) (some false))))))
def WW:OD:=NA2 Fv
def JAa:AwF:=BI u1 WW S9 E8 [Jp] Tryz.func133 NA2
def OA2:CG:=fun a=>mk (ArO [w8 a])
def Jf:CG:=OA2
def VZ:AwF:=BI u1 Jf FN Cc [] Tryz.func146 OA2
inductive KAa where
 |c0 (a b d:Int) (e:(List Bool))
def LBa:KAa->AsN
 |.c0 a b d e=>(tdo Tryz.f212 232,[vi 3 a,vo 14 944,vi 15 b,vi 16 d],[(944,.sl 4 e)])
def PA2 (k:Aw7 KAa Int):DAu:=fun a=>mk (k (.c0 0 ((4:Nat):Int) 0 [AqY a,Em a,FK a,Ari a]))
def SBG (k:Aw7 KAa Int):Aw7 KAa Int
 |.c0 d c a b=>mk (cond (MZ a c) (cond (AwT a b.length) (cond (b.getD (BN a) false) (cond (Sl a) (k (.c0 (Ad (ZI H7 d (Ad (1*(Awk a))))) c (Aw6 a) b)) none) (k (.c0 d c (Aw6 a) b))) none) (some d))
def LAm:AzH KAa Int
 |0,_=>none
 |m+1,s=>SBG (LAm m) s
def MAm:DAu:=PA2 (LAm AY)
def MBa:AwF:=fy u1 MAm S9 FN [] Tryz.func212 LBa SBG PA2 LAm
def QA2 (c:CG):RZ:=fun b=>mk ((c (BF b)).bind fun a=>AwZ (AwC a b) (some (a++b)))
def NAm:RZ:=QA2 WX
def NBa:AwF:=BI u1 NAm Cc Cc [gB] Tryz.func213 QA2
def RA2 (l:OD) (h i:CG) (m:DAu) (n:RZ):Awt:=fun a=>mk ((l a).bind fun g=>cond (!g) (LZ (IK,false)) ((h a.fId).bind fun b=>(i (Jb a)).bind fun c=>Eo (AwC b c) ((m a).bind fun j=>(i j).bind fun d=>Eo (ArC b c d) ((n (Aqz a)).bind fun e=>Eo (ArC (b++c) d e) ((h a.fNext).bind fun f=>Eo (ArC ((b++c)++d) e f) (LZ ((((b++c)++d)++e)++f,true)))))))
def qN:Awt:=RA2 WW WX Jf MAm NAm
def SA2:AwF:=BI u1 qN S9 IQ [JAa,gB,VZ,MBa,NBa] Tryz.func145 RA2
def TA2 (j:CG) (m:AwU) (o:Awt) (b:CG):Aq9:=fun a=>mk (cond (a.Aj == 1) (cond (!(Awc a.fText)) (LZ (IK,false)) (cond (!((VY a.Aj) && (((Wy a.fText) == (Wy a.fText)) && ((EF a.DR) && (((EF (ArS a).fId) && ((EF (Jb (ArS a))) && (((AqY (ArS a)) == false) && (((Em (ArS a)) == false) && (((FK (ArS a)) == false) && (((Ari (ArS a)) == false) && ((fQ a) && ((EF (ArS a).fNext) && true)))))))) && true))))) (LZ (IK,false)) ((b a.Aj).bind fun d=>Eo (AwC d a.fText) (LZ (d++a.fText,true))))) (cond (a.Aj == 2) ((j a.DR).bind fun e=>(m a.DR 0 3).bind fun l=>cond (!l) (LZ (IK,false)) (cond (!((VY a.Aj) && ((EU a.fText IK) && ((VY a.DR) && (((EF (ArS a).fId) && ((EF (Jb (ArS a))) && (((AqY (ArS a)) == false) && (((Em (ArS a)) == false) && (((FK (ArS a)) == false) && (((Ari (ArS a)) == false) && ((fQ a) && ((EF (ArS a).fNext) && true)))))))) && true))))) (LZ (IK,false)) ((b a.Aj).bind fun f=>Eo (AwC f e) (LZ (f++e,true))))) (cond (a.Aj == 3) ((o (ArS a)).bind fun c=>cond (!c.2) (LZ (IK,false)) (cond (!((VY a.Aj) && ((EU a.fText IK) && ((EF a.DR) && (((VY (ArS a).fId) && ((VY (Jb (ArS a))) && (((AqY (ArS a)) == (AqY (ArS a))) && (((Em (ArS a)) == (Em (ArS a))) && (((FK (ArS a)) == (FK (ArS a))) && (((Ari (ArS a)) == (Ari (ArS a))) && (((Wy (Aqz (ArS a))) == (Wy (Aqz (ArS a)))) && ((VY (ArS a).fNext) && true)))))))) && true))))) (LZ (IK,false)) ((b a.Aj).bind fun g=>Eo (AwC g c.1) (LZ (g++c.1,true))))) (cond (a.Aj == 4) ((j a.DR).bind fun h=>(m a.DR 1 1000).bind fun n=>cond (!n) (LZ (IK,false)) (cond (!((VY a.Aj) && ((EU a.fText IK) && ((VY a.DR) && (((EF (ArS a).fId) && ((EF (Jb (ArS a))) && (((AqY (ArS a)) == false) && (((Em (ArS a)) == false) && (((FK (ArS a)) == false) && (((Ari (ArS a)) == false) && ((fQ a) && ((EF (ArS a).fNext) && true)))))))) && true))))) (LZ (IK,false)) ((b a.Aj).bind fun i=>Eo (AwC i h) (LZ (i++h,true))))) (LZ (IK,false))))))
def qO:Aq9:=TA2 WX Fv qN Jf
def UA2:AwF:=BI u1 qO AVD IQ [gB,Jp,SA2,VZ] Tryz.func97 TA2
def VA2 (d:AwU) (e:CG):VAh:=fun b=>mk ((d b 0 1000000000).bind fun a=>cond (!a) (LZ (IK,false)) ((e b).bind fun c=>LZ (c,true)))
def yC:VAh:=VA2 Fv WX
def OBa:AwF:=BI u1 yC FN IQ [Jp,gB] Tryz.func254 VA2
inductive MAa where
 |c0 (a b d:Int) (e:(List Int))
def PBa:MAa->AsN
 |.c0 a b d e=>(tdo Tryz.f286 232,[(1,[.one (.int .u8 a)]),vo 5 368,vi 10 b,vi 11 d],[(368,.sl 5 e)])
def WA2 (k:Aw7 MAa AA):VK:=fun a b=>mk (cond (Pz a) (k (.c0 b (NZ (Aq6 a)) 0 (Aq6 a))) none)
def OAm (k:Aw7 MAa AA):Aw7 MAa AA
 |.c0 d c a b=>mk (cond (MZ a c) (cond (AsI a b) (cond (AsI a b) (k (.c0 d c (Aw6 a) (b.set (BN a) (w8 (Ii Ar3 (Arn b a) d))))) none) none) (ArO b))
def mQ:AzH MAa AA
 |0,_=>none
 |m+1,s=>OAm (mQ m) s
def mP:VK:=WA2 (mQ AY)
def QBa:AwF:=fy u2 mP AVG Cc [] Tryz.func286 PBa OAm WA2 mQ
def XA2 (b:RZ) (d:CG) (e:VK):Ro:=fun a f=>mk (cond ((BF a) > 64) ((b a).bind fun c=>XAu d c e f b) (XAu d a e f b))
def mW:Ro:=XA2 JQ X9 mP
def TBG:AwF:=BI u2 mW KJ Cc [RU,CAm,QBa] Tryz.func255 XA2
inductive NAa where
 |c0 (a:AA) (b:Int) (d e:AA) (f:Int)
def RBa:NAa->AsN
 |.c0 a b d e f=>(tdo Tryz.f198 2000,[vs 0 a,vi 2 b,vs 8 d,vs 10 e,vi 11 f],[])
def YA2 (d:VAh) (f:AwU) (h:CG) (i:Ro) (k:Aw7 NAa (AA×Bool)):Yw:=fun g e c=>mk ((d e).bind fun a=>cond (!a.2) (LZ (IK,false)) ((f c 0 8000).bind fun b=>cond (!b) (LZ (IK,false)) (k (.c0 g c a.1 IK 0))))
def PAm (a:VAh) (b:AwU) (c:CG) (d:Ro) (k:Aw7 NAa (AA×Bool)):Aw7 NAa (AA×Bool)
 |.c0 l f g e j=>mk (cond (MZ (BF e) f) (cond (AwC fM g) ((c j).bind fun h=>cond (ArC fM g h) ((d l ((fM++g)++h)).bind fun i=>cond (AwC e i) (k (.c0 l f g (e++i) (Aw6 j))) none) none) none) (Eo (GL f (BF e)) (LZ (Arz e f,true))))
def mX:AzH NAa (AA×Bool)
 |0,_=>none
 |m+1,s=>PAm yC Fv Jf mW (mX m) s
def yD:Yw:=YA2 yC Fv Jf mW (mX AY)
def UBG:AwF:=fy u3 yD wR IQ [OBa,Jp,VZ,TBG] Tryz.func198 RBa PAm YA2 mX
inductive PAa where
 |c0 (a:AA) (b d:Int) (e:(List Int))
def SBa:PAa->AsN
 |.c0 a b d e=>(tdo Tryz.f200 232,[vs 1 a,vo 5 368,vi 10 b,vi 11 d],[(368,.sl 5 e)])
def ZA2 (k:Aw7 PAa AA):Ro:=fun a b=>mk (cond (Pz a) (k (.c0 b (NZ (Aq6 a)) 0 (Aq6 a))) none)
def QAm (k:Aw7 PAa AA):Aw7 PAa AA
 |.c0 c d a b=>mk (cond (MZ a d) (cond (AsI a b) (cond (Avx a (BF c)) (cond (AsI a b) (k (.c0 c d (Aw6 a) (b.set (BN a) (w8 (Ii Ar3 (Arn b a) (bt c a)))))) none) none) none) (ArO b))
def mZ:AzH PAa AA
 |0,_=>none
 |m+1,s=>QAm (mZ m) s
def yF:Ro:=ZA2 (mZ AY)
def VBG:AwF:=fy u2 yF KJ Cc [] Tryz.func200 SBa QAm ZA2 mZ
def ANW (d:CG) (f:Ro):Yx:=fun g e c=>mk ((d e).bind fun a=>AwZ (AwC AxA a) (AwZ (ArC AxA a c) ((f g ((AxA++a)++c)).bind fun b=>AwZ ((AwQ Qa (16:Int)) && (decide (16<=(BF b)))) (some (Arz b (16:Int))))))
def yE:Yx:=ANW WX mW
def WBG:AwF:=BI u3 yE VA Cc [gB,TBG] Tryz.func199 ANW
def BA3 (g:Yw) (h:Ro) (i:Yx):LV:=fun d e f=>mk ((g d e (BF f)).bind fun b=>cond (!b.2) (LZ (IK,false)) ((h f b.1).bind fun a=>(i d e a).bind fun c=>Eo (AwC a c) (LZ (a++c,true))))
def yX:LV:=BA3 yD yF yE
def XBG:AwF:=BI u3 yX VA IQ [UBG,VBG,WBG] Tryz.func155 BA3
inductive TAa where
 |c0 (a:Int) (b:AA) (d:Int)
 |c1 (a:Int) (b:AA) (d e:Int)
def TBa:TAa->AsN
 |.c0 a b d=>(tdo Tryz.f253 208,[(0,[.one (.int .u32 a)]),vs 1 b,vi 5 d],[])
 |.c1 a b d e=>(tdo Tryz.f253 13464,[(0,[.one (.int .u32 a)]),vs 1 b,vi 5 d,vi 19 e],[])
def CA3 (k:Aw7 TAa Int):qc:=fun a b=>k (.c0 a b 0)
def mG (k:Aw7 TAa Int):Aw7 TAa Int
 |.c0 c b a=>mk (cond (MZ a (BF b)) (cond (Avx a (BF b)) (k (.c1 (Aqb Jd c (w32 (bt b a))) b a 0)) none) (some c))
 |.c1 a c d b=>mk (cond (b<8) (cond ((w32 (VW Jd a)) == 1) (k (.c1 (w32 ((BitVec.toNat ((BitVec.ofInt Jd (VX a Awl)) ^^^ (BitVec.ofInt Jd 3558460437)):Nat):Int)) c d (Aw6 b))) (k (.c1 (VX a Awl) c d (Aw6 b)))) (k (.c0 a c (Aw6 d))))
def Un:AzH TAa Int
 |0,_=>none
 |m+1,s=>mG (Un m) s
def RAm:qc:=CA3 (Un AY)
def UBa:AwF:=fy u2 RAm AVH UG [] Tryz.func253 TBa mG CA3 Un
def DA3 (b:qc):Yy:=fun c=>(b 4294967295 c).bind fun a=>some a
def mO:Yy:=DA3 RAm
def YBG:AwF:=BI u1 mO Cc UG [UBa] Tryz.func197 DA3
def EA3 (f:AwU) (g:CG) (h:Yy) (i:CG):Aqn:=fun a=>mk ((f (BF a) 1 9000).bind fun d=>cond (!d) (LZ (IK,false)) ((g (BF a)).bind fun b=>(h a).bind fun e=>(i e).bind fun c=>Eo (AwC b c) (Eo (ArC b c a) (LZ ((b++c)++a,true)))))
def nC:Aqn:=EA3 Fv WX mO WU
def ZBG:AwF:=BI u1 nC Cc IQ [Jp,gB,YBG,DAm] Tryz.func139 EA3
def FA3 (f:Aq9) (h:AwU) (i:LV) (l:Aqn):XM:=fun j e g=>mk ((f g).bind fun a=>cond (!a.2) (some ([],false)) ((h e 0 10000).bind fun d=>cond (!d) (some ([],false)) ((i j (Aw6 e) a.1).bind fun b=>(l b.1).bind fun c=>cond (!b.2) (some ([],false)) (cond (!c.2) (some ([],false)) (some ([⟨1,Qw,c.1,IK⟩,⟨2,Qw,IK,IK⟩],true))))))
def yY:XM:=FA3 qO Fv yX nC
def AYf:AwF:=BI u3 yY AVI AVJ [UA2,Jp,XBG,ZBG] Tryz.func106 FA3
def GA3:WY:=fun a=>mk (cond (Ej ((AxK a)*40)) (some a) none)
def Uy:WY:=GA3
def VAa:AwF:=BI u1 Uy AKp jo [] Tryz.func156 GA3
inductive WAa where
 |c0 (a:AA) (b:(List BQ)) (d e:Int)
def VBa:WAa->AsN
 |.c0 a b d e=>(tdo Tryz.f93 104,[vs 1 a,vr 8 90 b,vi 9 d,vi 10 e],[])
def HA3 (k:Aw7 WAa Int):ArW:=fun a b=>mk (k (.c0 b a.Ak (AxK a:Int) 0))
def SAm (k:Aw7 WAa Int):Aw7 WAa Int
 |.c0 d b c a=>mk (cond (MZ a c) (cond (AwT a b.length) (cond (EU (Ib b a).fName d) (some a) (k (.c0 d b c (Aw6 a)))) none) AxI)
def mF:AzH WAa Int
 |0,_=>none
 |m+1,s=>SAm (mF m) s
def bU:ArW:=HA3 (mF AY)
def TAm:AwF:=fy u2 bU wS FN [] Tryz.func93 VBa SAm HA3 mF
inductive XAa where
 |c0 (a:(List BQ)) (b d:Int) (e:BU)
def WBa:XAa->AsN
 |.c0 a b d e=>(tdo Tryz.f81 104,[vp 1 64,vr 6 90 a,vi 7 b,vi 8 d],[(64,.var [.BG 90 e.Ak])])
def IA3 (b:AwU) (k:Aw7 XAa Bool):Arj:=fun a=>mk (k (.c0 a.Ak (AxK a:Int) 0 a))
def UAm (a:AwU) (k:Aw7 XAa Bool):Aw7 XAa Bool
 |.c0 c e b d=>mk (cond (MZ b e) (cond (AwT b c.length) ((a (BF (Ib c b).fName) 1 8).bind fun f=>cond (!f) (some false) (cond ((Ic c b) > 20000) (some false) ((a (Aqi c b) 0 (Ic c b)).bind fun g=>cond (!g) (some false) (cond (Arf b) (cond (Avx (Awm b) (AxK d:Int)) (cond (!(rQ (Ib d.Ak (Awm b)) (Ib c b))) (some false) (k (.c0 c e (Aw6 b) d))) none) (k (.c0 c e (Aw6 b) d)))))) none) (some (decide ((AxK d:Int)<=30))))
def l7:AzH XAa Bool
 |0,_=>none
 |m+1,s=>UAm Fv (l7 m) s
def V4:Arj:=IA3 Fv (l7 AY)
def VAm:AwF:=fy u1 V4 AKp E8 [Jp] Tryz.func81 WBa UAm IA3 l7
def JA3 (c:ArW):Yz:=fun b d=>mk ((c b d).bind fun a=>cond (JF a) (cond (GL a (AxK b:Int)) (cond (Ej ((ZF b.Ak a).length*40)) (cond (GL (Aw6 a) (AxK b:Int)) (cond (Ej (((ZF b.Ak a).length+((b.Ak.drop (Ol a)).take ((AxK b) - (Ol a))).length)*40)) (some ⟨(ZF b.Ak a)++((b.Ak.drop (Ol a)).take ((AxK b) - (Ol a)))⟩) none) none) none) none) (some b))
def oH:Yz:=JA3 bU
def BBH:AwF:=BI u2 oH Aes jo [TAm] Tryz.func220 JA3 [0]
inductive YAa where
 |c0 (a:Int) (b:BQ) (d:(List BQ))
def XBa:YAa->AsN
 |.c0 b a d=>(tdo Tryz.f219 480,[vp 0 0,vp 3 192,vi 4 b],[(0,.var [.own 1000000]),(192,.var [.str a.fName,.str a.fText,li a.J3]),(1000000,.sl 90 d)])
def KA3 (c:Yz) (k:Aw7 YAa BU):qg:=fun d b=>(c d b.fName).bind fun a=>k (.c0 0 b a.Ak)
def WAm (a:Yz) (k:Aw7 YAa BU):Aw7 YAa BU
 |.c0 b d c=>mk (cond (Ar5 b c.length) (cond (AwT b c.length) (cond (rQ (Ib c b) d) (k (.c0 (Aw6 b) d c)) (QAu b c d)) none) (QAu b c d))
def oI:AzH YAa BU
 |0,_=>none
 |m+1,s=>WAm oH (oI m) s
def XAm:qg:=KA3 oH (oI AY)
def YBa:AwF:=fy u2 XAm Aet jo [BBH] Tryz.func219 XBa WAm KA3 oI [0]
def LA3 (a1:ArW) (d:Arj) (l:WY) (e:qg) (f:Yz):Y0:=fun c a=>mk ((a1 c a.fName).bind fun b=>Nw (d c) (Qb (IZ,false)) (cond (a.Aj != 1) (cond (Avd b) (Qb (IZ,false)) (cond (!(EU a.fText IK)) (Qb (IZ,false)) (cond (a.Aj != 3) (cond (!(EU a.I8 IK)) (Qb (IZ,false)) ((l c).bind fun g=>cond (JF b) (ArK (Jt b c) (cond (NU a) (ArK (AwC (Uj c b) a.fText) ((e g (XA c b a)).bind fun m=>Avz d m (IZ,false) (m,true))) (cond (NV a) ((e g (XC c b)).bind fun n=>Avz d n (IZ,false) (n,true)) (NR a.Aj ((Jc c b) != (AsL c b)) (Qb (IZ,false)) (cond (NT a) (Qb (IZ,false)) ((f g a.fName).bind fun T=>(e T (XJ a c b)).bind fun o=>Avz d o (IZ,false) (o,true))) (NW a) ((f g a.fName).bind fun p=>Avz d p (IZ,false) (p,true)))))) (cond (NU a) (ArK (XH a) ((e g (XE a)).bind fun q=>Avz d q (IZ,false) (q,true))) (cond (NV a) ((e g (XF a)).bind fun r=>Avz d r (IZ,false) (r,true)) (NR a.Aj (NT a) (Qb (IZ,false)) ((f g a.fName).bind fun U=>(e U (XK a)).bind fun s=>Avz d s (IZ,false) (s,true)) (NW a) ((f g a.fName).bind fun t=>Avz d t (IZ,false) (t,true))))))) ((l c).bind fun h=>cond (JF b) (ArK (Jt b c) (cond (NU a) (ArK (AwC (Uj c b) a.fText) ((e h (XA c b a)).bind fun u=>Avz d u (IZ,false) (u,true))) (cond (NV a) ((e h (XC c b)).bind fun v=>Avz d v (IZ,false) (v,true)) (NR a.Aj ((Jc c b) != (AsL c b)) (Qb (IZ,false)) (cond (NT a) (Qb (IZ,false)) ((f h a.fName).bind fun V=>(e V (XJ a c b)).bind fun w=>Avz d w (IZ,false) (w,true))) (NW a) ((f h a.fName).bind fun x=>Avz d x (IZ,false) (x,true)))))) (cond (NU a) (ArK (XH a) ((e h (XE a)).bind fun y=>Avz d y (IZ,false) (y,true))) (cond (NV a) ((e h (XF a)).bind fun z=>Avz d z (IZ,false) (z,true)) (NR a.Aj (NT a) (Qb (IZ,false)) ((f h a.fName).bind fun W=>(e W (XK a)).bind fun A=>Avz d A (IZ,false) (A,true)) (NW a) ((f h a.fName).bind fun B=>Avz d B (IZ,false) (B,true))))))))) (cond (a.Aj != 3) (cond (!(EU a.I8 IK)) (Qb (IZ,false)) ((l c).bind fun i=>cond (JF b) (ArK (Jt b c) (cond (NU a) (ArK (AwC (Uj c b) a.fText) ((e i (XA c b a)).bind fun C=>Avz d C (IZ,false) (C,true))) (cond (NV a) ((e i (XC c b)).bind fun D=>Avz d D (IZ,false) (D,true)) (NR a.Aj ((Jc c b) != (AsL c b)) (Qb (IZ,false)) (cond (NT a) (Qb (IZ,false)) ((f i a.fName).bind fun X=>(e X (XJ a c b)).bind fun E=>Avz d E (IZ,false) (E,true))) (NW a) ((f i a.fName).bind fun F=>Avz d F (IZ,false) (F,true)))))) (cond (NU a) (ArK (XH a) ((e i (XE a)).bind fun G=>Avz d G (IZ,false) (G,true))) (cond (NV a) ((e i (XF a)).bind fun H=>Avz d H (IZ,false) (H,true)) (NR a.Aj (NT a) (Qb (IZ,false)) ((f i a.fName).bind fun Y=>(e Y (XK a)).bind fun I=>Avz d I (IZ,false) (I,true)) (NW a) ((f i a.fName).bind fun J=>Avz d J (IZ,false) (J,true))))))) ((l c).bind fun j=>cond (JF b) (ArK (Jt b c) (cond (NU a) (ArK (AwC (Uj c b) a.fText) ((e j (XA c b a)).bind fun L=>Avz d L (IZ,false) (L,true))) (cond (NV a) ((e j (XC c b)).bind fun M=>Avz d M (IZ,false) (M,true)) (NR a.Aj ((Jc c b) != (AsL c b)) (Qb (IZ,false)) (cond (NT a) (Qb (IZ,false)) ((f j a.fName).bind fun Z=>(e Z (XJ a c b)).bind fun N=>Avz d N (IZ,false) (N,true))) (NW a) ((f j a.fName).bind fun O=>Avz d O (IZ,false) (O,true)))))) (cond (NU a) (ArK (XH a) ((e j (XE a)).bind fun P=>Avz d P (IZ,false) (P,true))) (cond (NV a) ((e j (XF a)).bind fun Q=>Avz d Q (IZ,false) (Q,true)) (NR a.Aj (NT a) (Qb (IZ,false)) ((f j a.fName).bind fun a0=>(e a0 (XK a)).bind fun R=>Avz d R (IZ,false) (R,true)) (NW a) ((f j a.fName).bind fun S=>Avz d S (IZ,false) (S,true)))))))))
def yc:Y0:=LA3 bU V4 Uy XAm oH
def ZBa:AwF:=BI u2 yc AVK jq [TAm,VAm,VAa,YBa,BBH] Tryz.func157 LA3
inductive ACH where
 |c0 (a b:(List Ef)) (d e:Int) (f g:(List BQ))
def AoU:ACH->AsN
 |.c0 a b d e f g=>(tdo Tryz.f107 232,[vr 1 136 a,vp 4 256,vp 6 384,vr 13 136 b,vi 14 d,vi 15 e],[(256,.var [.own 1016384]),(384,.var [.own 1024576]),(1016384,.sl 90 f),(1024576,.sl 90 g)])
def MA3 (c:WY) (e:Y0) (k:Aw7 ACH (BU×Int)):VH:=fun d a=>mk ((c d).bind fun b=>k (.c0 a a (Qi a) 0 [] b.Ak))
def YAm (a:WY) (b:Y0) (k:Aw7 ACH (BU×Int)):Aw7 ACH (BU×Int)
 |.c0 h d g c i f=>mk (cond (MZ c g) (cond (AwT c d.length) ((b ⟨f⟩ (d.getD (BN c) (⟨0,IK,IK,IK⟩:Ef))).bind fun e=>cond (!e.2) (some (⟨f⟩,c)) (k (.c0 h d g (Aw6 c) i e.1.Ak))) none) (some (⟨f⟩,Qi h)))
def oM:AzH ACH (BU×Int)
 |0,_=>none
 |m+1,s=>YAm Uy yc (oM m) s
def oL:VH:=MA3 Uy yc (oM AY)
def NA3:AwF:=fy u2 oL AVL AVM [VAa,ZBa] Tryz.func107 AoU YAm MA3 oM
inductive BAb where
 |c0 (a:(List Af)) (b d:Int) (e:Bo)
def BBb:BAb->AsN
 |.c0 b d e a=>(tdo Tryz.f83 104,[vp 1 64,vr 6 76 b,vi 7 d,vi 8 e],[(64,.var [.str a.Bv,li a.DU,.BG 76 a.AZ,li a.BM,.str a.Dh,li a.fCount])])
def OA3 (b:OD) (c:AwU) (k:Aw7 BAb Bool):AsK:=fun a=>mk (k (.c0 (DC a) (Aww a) 0 a))
def ZAm (a:OD) (b:AwU) (k:Aw7 BAb Bool):Aw7 BAb Bool
 |.c0 e f d c=>mk (cond (MZ d f) (cond (AwT d e.length) ((a (Eb e d ⟨0,0,false,false,false,false,IK,0⟩)).bind fun g=>cond (!g) (some false) (cond (Ny (Eb e d ⟨0,0,false,false,false,false,IK,0⟩).fId c.BM) (some false) (cond (Arf d) (cond (Avx (Awm d) (Aww c)) (cond (AwL (Eb (DC c) (Awm d) ⟨0,0,false,false,false,false,IK,0⟩).fId (Eb e d ⟨0,0,false,false,false,false,IK,0⟩).fId) (some false) (k (.c0 e f (Aw6 d) c))) none) (k (.c0 e f (Aw6 d) c))))) none) (Aws (Awc c.Bv) (Aws (Awc (Tc c)) (Aqs (b c.DU 0 3) (Aws ((Aww c)<=8) (Aqs (b c.BM 0 1000) (Aqr (b c.fCount 0 10000)) (some false)) (some false)) (some false)) (some false)) (some false)))
def dn:AzH BAb Bool
 |0,_=>none
 |m+1,s=>ZAm WW Fv (dn m) s
def qR:AsK:=OA3 WW Fv (dn AY)
def CBH:AwF:=fy u1 qR AEl E8 [JAa,Jp] Tryz.func83 BBb ZAm OA3 dn
def PA3:Ql:=fun a=>mk (cond (Ej ((Oi a)*48)) (some a) none)
def dw:Ql:=PA3
def QA3:AwF:=BI u1 dw AEl AEk [] Tryz.func88 PA3
inductive CAb where
 |c0 (a:Int) (b:(List Af)) (d e:Int)
def CBb:CAb->AsN
 |.c0 a b d e=>(tdo Tryz.f99 104,[vi 1 a,vr 8 76 b,vi 9 d,vi 10 e],[])
def DBH (k:Aw7 CAb Int):KAU:=fun a b=>mk (k (.c0 b (DC a) (Aww a) 0))
def AH3 (k:Aw7 CAb Int):Aw7 CAb Int
 |.c0 d b c a=>mk (cond (MZ a c) (cond (AwT a b.length) (cond ((Eb b a ⟨0,0,false,false,false,false,IK,0⟩).fId == d) (some a) (k (.c0 d b c (Aw6 a)))) none) AxI)
def eF:AzH CAb Int
 |0,_=>none
 |m+1,s=>AH3 (eF m) s
def zy:KAU:=DBH (eF AY)
def RA3:AwF:=fy u2 zy AKo FN [] Tryz.func99 CBb AH3 DBH eF
def SA3:eu:=fun b a=>mk (Aws ((Jb a) == (Jb b)) (Aws (EU (Aqz a) (Aqz b)) (Aws ((FK a) == (FK b)) (Aws ((Ari a) == (Ari b)) (Aws (AwL a.fNext b.fNext) (Aws (AqY a) (Aws (Em a) (some true) (some (!(Em b)))) (Aws (!(AqY b)) (Aws (Em a) (some true) (some (!(Em b)))) (some false))) (some false)) (some false)) (some false)) (some false)) (some false))
def BAn:eu:=SA3
def DBb:AwF:=BI u2 BAn AVE E8 [] Tryz.func147 SA3
def TA3 (e:KAU) (f:eu):EAu:=fun a c=>mk ((e a c.fId).bind fun b=>cond (JF b) (cond (AwT b (Oi a)) ((f (Eb (DC a) b ⟨0,0,false,false,false,false,IK,0⟩) c).bind fun d=>cond (!d) (some (false,a)) (cond (AwT b (Oi a)) (some (true,⟨a.Bv,a.DU,(DC a).set (BN b) c,a.BM,Tc a,a.fCount⟩)) none)) none) (cond (c.fId != (Aw6 a.BM)) (some (false,a)) (cond ((Aww a)>=8) (some (false,a)) (cond (Ej (((Oi a)+1)*48)) (some (true,⟨a.Bv,a.DU,(DC a)++[c],c.fId,Tc a,a.fCount⟩)) none))))
def CAn:EAu:=TA3 zy BAn
def EBb:AwF:=BI u2 CAn Aeu Aev [RA3,DBb] Tryz.func98 TA3 [0]
def UA3 (o:Aq9) (p:AsK) (q:Ql) (r:EAu) (s:KAU) (g:RZ):Qr:=fun a d=>mk ((o d).bind fun c=>(p a).bind fun h=>cond (!h) (some (Mc,false)) (cond (!c.2) (some (Mc,false)) (cond (a.fCount>=10000) (some (Mc,false)) ((q a).bind fun b=>cond (d.Aj == 1) (cond (Oq a c) ((g ((Tc a)++c.1)).bind fun i=>some (⟨d.fText,0,DC b,b.BM,i,Av5 b⟩,true)) none) (cond (d.Aj == 2) (cond (Oq a c) ((g ((Tc a)++c.1)).bind fun j=>some (⟨b.Bv,d.DR,DC b,b.BM,j,Av5 b⟩,true)) none) (cond (d.Aj == 3) ((r b (ArS d)).bind fun f=>cond (!f.1) (some (Mc,false)) (cond (Oq a c) ((g ((Tc a)++c.1)).bind fun l=>some (⟨f.2.Bv,f.2.DU,DC f.2,f.2.BM,l,Av5 f.2⟩,true)) none)) (cond (d.Aj == 4) ((s a d.DR).bind fun e=>cond (Avd e) (some (Mc,false)) (cond (GL e (Aww a)) (cond (Ej ((((DC a).take (BN e)).drop 0).length*48)) (cond (GL (Aw6 e) (Aww a)) (cond (Ej (((((DC a).take (BN e)).drop 0).length+(((DC a).take (Oi a)).drop (Ol e)).length)*48)) (cond (Oq a c) ((g ((Tc a)++c.1)).bind fun m=>some (⟨b.Bv,b.DU,(((DC a).take (BN e)).drop 0)++(((DC a).take (Oi a)).drop (Ol e)),b.BM,m,Av5 b⟩,true)) none) none) none) none) none)) (cond (Oq a c) ((g ((Tc a)++c.1)).bind fun n=>some (⟨b.Bv,b.DU,DC b,b.BM,n,Av5 b⟩,true)) none))))))))
def Yp:Qr:=UA3 qO qR dw CAn zy JQ
def VA3:AwF:=BI u2 Yp AVF AEm [UA2,CBH,QA3,EBb,RA3,RU] Tryz.func53 UA3
def WA3 (f:XM) (g:VH) (h:Qr):LAU:=fun a e=>mk ((f a.BO (Qm a) e).bind fun b=>(g a.Bc b.1).bind fun c=>(h (Ar8 a) e).bind fun d=>cond (!b.2) (some (false,a)) (cond (!d.2) (some (false,a)) (cond (MZ c.2 (Qi b.1)) (some (false,a)) (some (true,⟨a.BO,a.CZ,c.1,d.1,Md a,ArI a,Fz a⟩)))))
def Vx:LAU:=WA3 yY oL Yp
def EBH:AwF:=BI u2 Vx Aew Aex [AYf,NA3,VA3] Tryz.func60 WA3 [0]
def XA3 (f:Arr) (g:RZ) (h:LAU):eU:=fun a b=>mk (cond ((BF a) != 32) (some (⟨IK,false,IZ,Mc,[],[],0⟩,false)) (cond ((BF b) > 20) (some (⟨IK,false,IZ,Mc,[],[],0⟩,false)) (f.bind fun c=>(g b).bind fun d=>(h ⟨a,true,IZ,c,[],[],0⟩ ⟨1,d,0,⟨0,0,false,false,false,false,IK,0⟩⟩).bind fun e=>some (e.2,true))))
def xY:eU:=XA3 Av2 JQ Vx
def FBb:AwF:=BI u2 xY KJ AEn [qV,RU,EBH] Tryz.func28 XA3
def YA3 (b:AwU):Wh:=fun a=>mk (Aqs (b a.Au 1 13) (Aqs (b (AxD a) 0 1000) (Aqs (b a.Ag 0 1000) (Aqs (b a.Aj 0 3) (some (decide ((BF a.fText)<=1000))) (some false)) (some false)) (some false)) (some false))
def yK:Wh:=YA3 Fv
def FBH:AwF:=BI u1 yK AKm E8 [Jp] Tryz.func61 YA3
def ZA3 (b:Wh):Yt:=fun a=>mk (Aqs (b a.BA) (some (decide ((NZ a.Lc)<=30))) (Aws a.JY (Aws ((EF a.BA.Au) && ((EF (AxD a.BA)) && ((EF a.BA.Ag) && ((EF a.BA.Aj) && ((EU a.BA.fText IK) && ((a.BA.CY == false) && ((a.BA.CX == false) && true))))))) (some (decide ((NZ a.Lc)<=30))) (some false)) (some false)))
def xk:Yt:=ZA3 yK
def GBb:AwF:=BI u1 xk AU1 E8 [FBH] Tryz.func29 ZA3
inductive HAb where
 |c0 (a b:(List Af)) (d e:Int)
def HBb:HAb->AsN
 |.c0 a b d e=>(tdo Tryz.f90 232,[vr 0 76 a,vr 1 76 b,vi 12 d,vi 13 e],[])
def ANI (k:Aw7 HAb Bool):FAu:=fun a b=>cond ((a.length:Int) != (b.length:Int)) (some false) (k (.c0 a b (a.length:Int) 0))
def DAn (k:Aw7 HAb Bool):Aw7 HAb Bool
 |.c0 b c d a=>mk (cond (MZ a d) (cond (AwT a b.length) (cond (AwT a c.length) (cond (!(((Eb b a ⟨0,0,false,false,false,false,IK,0⟩).fId == (Eb c a ⟨0,0,false,false,false,false,IK,0⟩).fId) && (((Jb (Eb b a ⟨0,0,false,false,false,false,IK,0⟩)) == (Jb (Eb c a ⟨0,0,false,false,false,false,IK,0⟩))) && (((AqY (Eb b a ⟨0,0,false,false,false,false,IK,0⟩)) == (AqY (Eb c a ⟨0,0,false,false,false,false,IK,0⟩))) && (((Em (Eb b a ⟨0,0,false,false,false,false,IK,0⟩)) == (Em (Eb c a ⟨0,0,false,false,false,false,IK,0⟩))) && (((FK (Eb b a ⟨0,0,false,false,false,false,IK,0⟩)) == (FK (Eb c a ⟨0,0,false,false,false,false,IK,0⟩))) && (((Ari (Eb b a ⟨0,0,false,false,false,false,IK,0⟩)) == (Ari (Eb c a ⟨0,0,false,false,false,false,IK,0⟩))) && ((EU (Aqz (Eb b a ⟨0,0,false,false,false,false,IK,0⟩)) (Aqz (Eb c a ⟨0,0,false,false,false,false,IK,0⟩))) && (((Eb b a ⟨0,0,false,false,false,false,IK,0⟩).fNext == (Eb c a ⟨0,0,false,false,false,false,IK,0⟩).fNext) && true))))))))) (some false) (k (.c0 b c d (Aw6 a)))) none) none) (some true))
def l9:AzH HAb Bool
 |0,_=>none
 |m+1,s=>DAn (l9 m) s
def EAn:FAu:=ANI (l9 AY)
def IBb:AwF:=fy u2 EAn Aey E8 [] Tryz.func90 HBb DAn ANI l9
def BA4 (c:FAu):VJ:=fun a b=>mk (Aws (EU a.Bv b.Bv) (Aws (a.DU == b.DU) (Aqs (c (DC a) (DC b)) (Aws (a.BM == b.BM) (Aws (EU (Tc a) (Tc b)) (some (a.fCount == b.fCount)) (some false)) (some false)) (some false)) (some false)) (some false))
def mD:VJ:=BA4 EAn
def GBH:AwF:=BI u2 mD AUw E8 [IBb] Tryz.func47 BA4
def CA4 (c:ArW):AwE:=fun b d=>mk ((c b d).bind fun a=>cond (Avd a) (LZ (IK,false)) (Eo (Jt a b) (LZ (Uj b a,true))))
def x9:AwE:=CA4 bU
def HBH:AwF:=BI u2 x9 wS IQ [TAm] Tryz.func91 CA4
inductive JAb where
 |c0 (a:AA) (b d e:Int)
def JBb:JAb->AsN
 |.c0 a b d e=>(tdo Tryz.f196 976,[vs 0 a,vi 1 b,vi 7 d,vi 8 e],[])
def zn (d:AwU) (k:Aw7 JAb (Int×Int×Bool)):Qo:=fun c b=>mk ((d b 0 (BF c)).bind fun a=>cond (!a) (some (0,0,false)) (k (.c0 c b 0 0)))
def FAn (a:AwU) (k:Aw7 JAb (Int×Int×Bool)):Aw7 JAb (Int×Int×Bool)
 |.c0 d c e b=>mk (cond (b<5) (cond (MZ (Aw3 c b) (BF d)) (cond (Avx (Aw3 c b) (BF d)) (cond (Sl (Ad (7*b))) (cond ((Avb d (Aw3 c b))<128) (cond (EF (Avb d (Aw3 c b))) (cond (Arf b) (some (0,0,false)) (cond ((rU e d c b) > 1000000000) (some (0,0,false)) (some (rU e d c b,Aw6 (Aw3 c b),true)))) (cond ((rU e d c b) > 1000000000) (some (0,0,false)) (some (rU e d c b,Aw6 (Aw3 c b),true)))) (k (.c0 d c (rU e d c b) (Aw6 b)))) none) none) (some (0,0,false))) (some (0,0,false)))
def Aw0:AzH JAb (Int×Int×Bool)
 |0,_=>none
 |m+1,s=>FAn Fv (Aw0 m) s
def Us:Qo:=zn Fv (Aw0 AY)
def GAn:AwF:=fy u2 Us Q9 AVQ [Jp] Tryz.func196 JBb FAn zn Aw0
inductive LAb where
 |c0 (a:AA) (b:Int) (d:(List AA))
def KBb:LAb->AsN
 |.c0 a b d=>(tdo Tryz.f136 496,[vs 0 a,vo 4 304,vi 5 b],[(304,.sl 9 d)])
def DA4 (b:Qo) (c:AwU) (d:Yy) (e:CG) (k:Aw7 LAb (List AA×Int)):ZB:=fun a=>mk (cond ((BF a) > 20000) (some ([],0)) (k (.c0 a 0 [])))
def EA4 (a:Qo) (b:AwU) (c:Yy) (d:CG) (k:Aw7 LAb (List AA×Int)):Aw7 LAb (List AA×Int)
 |.c0 f h g=>mk ((a f h).bind fun e=>cond (!e.2.2) (some (g,h)) ((b e.1 1 9000).bind fun i=>cond (!i) (some (g,h)) (cond (Ny e.1 (Ad ((AqZ (BF f) e.2.1) - 4))) (some (g,h)) (cond (Kq (Ad (e.2.1+4)) (Ad (AxC e)) (BF f)) (cond (Kq e.2.1 (Ad (e.2.1+4)) (BF f)) ((c (f.extract (AxJ (e.2.1+4)) (AxJ (AxC e)))).bind fun j=>(d j).bind fun l=>cond (!(EU (ArD f e.2.1 (e.2.1+4)) l)) (some (g,h)) (cond (Pn g) (k (.c0 f (Ad (AxC e)) (g++[f.extract (AxJ (e.2.1+4)) (AxJ (AxC e))]))) none)) none) none))))
def yB:AzH LAb (List AA×Int)
 |0,_=>none
 |m+1,s=>EA4 Us Fv mO WU (yB m) s
def yA:ZB:=DA4 Us Fv mO WU (yB AY)
def LBb:AwF:=fy u1 yA Cc AUq [GAn,Jp,YBG,DAm] Tryz.func136 KBb EA4 DA4 yB
def FA4 (g:Yw) (h:Yx) (i:Ro):LV:=fun c d a=>mk (cond (Avd (Ad ((BF a) - 16))) (LZ (IK,false)) ((g c d (Ad ((BF a) - 16))).bind fun b=>cond (!b.2) (LZ (IK,false)) (Eo (FAV a) ((h c d (ZJ a)).bind fun e=>Eo (FAV a) (cond (!(EU e (a.extract (AxJ ((BF a) - 16)) a.size))) (LZ (IK,false)) (Eo (FAV a) ((i (ZJ a) b.1).bind fun f=>LZ (f,true))))))))
def mg:LV:=FA4 yD yE yF
def IBH:AwF:=BI u3 mg VA IQ [UBG,WBG,VBG] Tryz.func137 FA4
def HAn (c:Qo):GAu:=fun a=>(c a.fText a.ER).bind fun b=>cond (!b.2.2) (some (0,⟨a.fText,a.ER,true⟩)) (some (b.1,⟨a.fText,b.2.1,a.I7⟩))
def qK:GAu:=HAn Us
def MBb:AwF:=BI u1 qK AU2 Aez [GAn] Tryz.func225 HAn [0]
def y8 (c:Qo):WAh:=fun b d=>mk ((c b d).bind fun a=>cond (!a.2.2) (some (IK,0,false)) (cond (a.1 > 20000) (some (IK,0,false)) (cond (Ny a.1 (AqZ (BF b) a.2.1)) (some (IK,0,false)) (cond (Kq a.2.1 (Aw3 a.2.1 a.1) (BF b)) (some (ArD b a.2.1 (a.2.1+a.1),Aw3 a.2.1 a.1,true)) none))))
def WM:WAh:=y8 Us
def JBH:AwF:=BI u2 WM Q9 AU3 [GAn] Tryz.func223 y8
def IAn (c:WAh):HAu:=fun a=>mk ((c a.fText a.ER).bind fun b=>cond (!b.2.2) (some (IK,⟨a.fText,a.ER,true⟩)) (some (b.1,⟨a.fText,b.2.1,a.I7⟩)))
def qL:HAu:=IAn WM
def NBb:AwF:=BI u1 qL AU2 Ae0 [JBH] Tryz.func226 IAn [0]
def JAn (b:GAu) (i:HAu) (j:Awt):Y3:=fun h=>mk ((b ⟨h,0,false⟩).bind fun a=>(b a.2).bind fun c=>(b c.2).bind fun d=>(i d.2).bind fun e=>(b e.2).bind fun f=>(j (RAu a c d e f)).bind fun g=>cond f.2.I7 (some (⟨0,0,false,false,false,false,IK,0⟩,false)) (cond (!g.2) (some (⟨0,0,false,false,false,false,IK,0⟩,false)) (cond (!(EU g.1 h)) (some (⟨0,0,false,false,false,false,IK,0⟩,false)) (some (RAu a c d e f,true)))))
def Uw:Y3:=JAn qK qL qN
def KBH:AwF:=BI u1 Uw Cc Yb [MBb,NBb,SA2] Tryz.func165 JAn
def dh (h:Y3) (i:Qo) (c:Aq9):ZC:=fun a=>mk (cond (EU a IK) (some (⟨0,IK,0,⟨0,0,false,false,false,false,IK,0⟩⟩,false)) (cond (VI Qa (BF a)) (cond ((Ad (bt a 0)) == 1) (cond (AAk a) ((c ⟨Ad (bt a 0),Aqq a Awl,0,⟨0,0,false,false,false,false,IK,0⟩⟩).bind fun b=>cond (!b.2) (some (⟨0,IK,0,⟨0,0,false,false,false,false,IK,0⟩⟩,false)) (cond (!(EU b.1 a)) (some (⟨0,IK,0,⟨0,0,false,false,false,false,IK,0⟩⟩,false)) (some (⟨Ad (bt a 0),Aqq a Awl,0,⟨0,0,false,false,false,false,IK,0⟩⟩,true)))) none) (cond ((Ad (bt a 0)) == 3) (cond (AAk a) ((h (Aqq a Awl)).bind fun d=>(c ⟨Ad (bt a 0),IK,0,d.1⟩).bind fun e=>cond (!e.2) (some (⟨0,IK,0,⟨0,0,false,false,false,false,IK,0⟩⟩,false)) (cond (!(EU e.1 a)) (some (⟨0,IK,0,⟨0,0,false,false,false,false,IK,0⟩⟩,false)) (some (⟨Ad (bt a 0),IK,0,d.1⟩,true)))) none) ((i a 1).bind fun f=>(c ⟨Ad (bt a 0),IK,f.1,⟨0,0,false,false,false,false,IK,0⟩⟩).bind fun g=>cond (!g.2) (some (⟨0,IK,0,⟨0,0,false,false,false,false,IK,0⟩⟩,false)) (cond (!(EU g.1 a)) (some (⟨0,IK,0,⟨0,0,false,false,false,false,IK,0⟩⟩,false)) (some (⟨Ad (bt a 0),IK,f.1,⟨0,0,false,false,false,false,IK,0⟩⟩,true)))))) none))
def Sj:ZC:=dh Uw Us qO
def OBb:AwF:=BI u1 Sj Cc AUr [KBH,GAn,UA2] Tryz.func138 dh
inductive PAb where
 |c0 (a:AA) (b d e:Int) (f:(List Ah)) (g:(List AA))
def PBb:PAb->AsN
 |.c0 a b d e f g=>(tdo Tryz.f92 1000,[vs 0 a,vo 8 560,vi 9 b,vo 23 1520,vi 24 d,vi 25 e],[(560,.sl 78 f),(1520,.sl 9 g)])
def GA4 (b:ZB) (e:LV) (f:ZC) (g:Aqn) (k:Aw7 PAb (List Ah×Int)):Aq8:=fun d c=>mk ((b c).bind fun a=>k (.c0 d 0 (Qd a.1) 0 [] a.1))
def KAn (a:ZB) (b:LV) (c:ZC) (d:Aqn) (k:Aw7 PAb (List Ah×Int)):Aw7 PAb (List Ah×Int)
 |.c0 m h l e f g=>mk (cond (MZ e l) (cond (OJ e g) ((b m (Aw6 e) (Ig g e IK)).bind fun i=>(c i.1).bind fun j=>cond (!i.2) (some (f,h)) (cond (!j.2) (some (f,h)) (cond (eH f) ((d (Ig g e IK)).bind fun n=>k (.c0 m (Aw3 h (BF n.1)) l (Aw6 e) (f++[j.1]) g)) none))) none) (some (f,h)))
def nD:AzH PAb (List Ah×Int)
 |0,_=>none
 |m+1,s=>KAn yA mg Sj nC (nD m) s
def yG:Aq8:=GA4 yA mg Sj nC (nD AY)
def LBH:AwF:=fy u2 yG KJ AUs [LBb,IBH,OBb,ZBG] Tryz.func92 PBb KAn GA4 nD
inductive RAb where
 |c0 (a:(List Ah)) (b d:Int) (e:AA) (f g:Int) (h:AA) (i:Int) (j:AA) (l n:Int) (o:AA) (p:Int) (q t:(List Af))
def QBb:RAb->AsN
 |.c0 a b d e f g h i j l n o p q t=>(tdo Tryz.f45 232,[vp 4 256,vp 6 384,vr 13 78 a,vi 14 b,vi 15 d],[(256,.var [.str e,li f,.own 1016386,li g,.str h,li i]),(384,.var [.str j,li l,.own 1024578,li n,.str o,li p]),(1016386,.sl 76 q),(1024578,.sl 76 t)])
def HA4 (c:Ql) (e:Qr) (k:Aw7 RAb (Bo×Bool)):Yu:=fun d b=>mk ((c d).bind fun a=>k (.c0 b (AxM b) 0 IK 0 0 IK 0 a.Bv a.DU a.BM (Tc a) a.fCount [] (DC a)))
def LAn (a:Ql) (b:Qr) (k:Aw7 RAb (Bo×Bool)):Aw7 RAb (Bo×Bool)
 |.c0 e f d n o p q r g h j l m s i=>mk (cond (MZ d f) (cond (AwT d e.length) ((b ⟨g,h,i,j,l,m⟩ (AwP e d IK ⟨0,0,false,false,false,false,IK,0⟩)).bind fun c=>cond (!c.2) (some (Mc,false)) (k (.c0 e f (Aw6 d) n o p q r c.1.Bv c.1.DU c.1.BM (Tc c.1) c.1.fCount s (DC c.1)))) none) (some (⟨g,h,i,j,l,m⟩,true)))
def nG:AzH RAb (Bo×Bool)
 |0,_=>none
 |m+1,s=>LAn dw Yp (nG m) s
def yH:Yu:=HA4 dw Yp (nG AY)
def MBH:AwF:=fy u2 yH AUx AEm [QA3,VA3] Tryz.func45 QBb LAn HA4 nG
def IA4 (h:AwE) (i:Aq8) (l:Arr) (m:Yu) (n:Arj) (o:ArW):RV:=fun j d=>mk ((h d Qw).bind fun a=>(i j a.1).bind fun b=>l.bind fun e=>(m e b.1).bind fun c=>(n d).bind fun f=>cond (!f) (some (Mc,[],false)) (cond (!c.2) (some (Mc,[],false)) ((o d Tt).bind fun g=>cond (JF g) (cond (b.2 == (BF a.1)) (some (c.1,[⟨4,Tt,IK,IK⟩],true)) (cond (GL b.2 (BF a.1)) (some (c.1,YAu a.1 b.2,true)) none)) (cond (b.2 == (BF a.1)) (some (c.1,[],true)) (cond (GL b.2 (BF a.1)) (some (c.1,[⟨1,Tt,Arz a.1 b.2,IK⟩,⟨2,Tt,IK,IK⟩,⟨3,Tt,IK,Qw⟩],true)) none)))))
def bf:RV:=IA4 x9 yG Av2 yH V4 bU
def JA4:AwF:=BI u2 bf AUy AUz [HBH,LBH,qV,MBH,VAm,TAm] Tryz.func48 IA4
def KA4 (c:KAU):Aqk:=fun b d=>mk ((c b d).bind fun a=>cond (Avd a) (some (⟨0,0,false,false,false,false,IK,0⟩,false)) (cond (AwT a (Oi b)) (some (Eb (DC b) a ⟨0,0,false,false,false,false,IK,0⟩,true)) none))
def Qx:Aqk:=KA4 zy
def TAb:AwF:=BI u2 Qx AKo Yb [RA3] Tryz.func54 KA4
inductive UAb where
 |c0 (a:(List CS)) (b d:Int) (e:Ap)
def RBb:UAb->AsN
 |.c0 b d e a=>(tdo Tryz.f84 104,[vp 1 64,vr 8 157 b,vi 9 d,vi 10 e],[(64,.var [.str a.BO,.bool a.CZ,.BG 90 a.Bc.Ak,.str a.AU.Bv,li a.AU.DU,.BG 76 a.AU.AZ,li a.AU.BM,.str a.AU.Dh,li a.AU.fCount,.BG 127 a.BP,.BG 157 a.BD,li a.CW])])
def LA4 (b:Aqk) (c:AwU) (k:Aw7 UAb Bool):Om:=fun a=>mk (k (.c0 (ArI a) (L8 a:Int) 0 a))
def MAn (a:Aqk) (b:AwU) (k:Aw7 UAb Bool):Aw7 UAb Bool
 |.c0 d g c e=>mk (cond (MZ c g) (cond (AwT c d.length) ((a (Ar8 e) (NK d c).fId).bind fun f=>cond (!f.2) (some false) (cond ((Jb f.1) != 2) (some false) ((b (NK d c).fNext 0 f.1.fNext).bind fun h=>cond (!h) (some false) (cond (Arf c) (cond (Avx (Awm c) (L8 e:Int)) (cond (AwL ((ArI e).getD (AxJ (c - 1)) FAi).fId (NK d c).fId) (some false) (k (.c0 d g (Aw6 c) e))) none) (k (.c0 d g (Aw6 c) e)))))) none) (some true))
def nH:AzH UAb Bool
 |0,_=>none
 |m+1,s=>MAn Qx Fv (nH m) s
def yI:Om:=LA4 Qx Fv (nH AY)
def SBb:AwF:=fy u1 yI RD E8 [TAb,Jp] Tryz.func84 RBb MAn LA4 nH
inductive WAb where
 |c0 (a:(List EG)) (b d:Int) (e:Ap)
def TBb:WAb->AsN
 |.c0 b d e a=>(tdo Tryz.f40 488,[vp 1 64,vr 44 127 b,vi 45 d,vi 46 e],[(64,.var [.str a.BO,.bool a.CZ,.BG 90 a.Bc.Ak,.str a.AU.Bv,li a.AU.DU,.BG 76 a.AU.AZ,li a.AU.BM,.str a.AU.Dh,li a.AU.fCount,.BG 127 a.BP,.BG 157 a.BD,li a.CW])])
def MA4 (e:Arj) (f:AwU) (g:Arr) (h:VJ) (i:RV) (j:AsK) (l:Om) (k:Aw7 WAb Bool):Om:=fun a=>mk (cond ((BF a.BO) != 32) (some false) ((e a.Bc).bind fun b=>cond (!b) (some false) ((f (Fz a) 0 1000).bind fun c=>cond (!c) (some false) (cond (!a.CZ) (Aws (EF (He a:Int)) (Aws (EF (L8 a:Int)) (g.bind fun d=>Aqr (h (Ar8 a) d)) (some false)) (some false)) (k (.c0 (Md a) (He a:Int) 0 a))))))
def yJ (a:Arj) (b:AwU) (c:Arr) (d:VJ) (e:RV) (f:AsK) (g:Om) (k:Aw7 WAb Bool):Aw7 WAb Bool
 |.c0 j m h i=>mk (cond (MZ h m) (cond (AwT h j.length) (cond (h>=3) (some false) ((b (Arb j h ⟨0,false⟩).fId 1 (Fz i)).bind fun n=>cond (!n) (some false) (cond (Arf h) (cond (Avx (Awm h) (He i:Int)) (cond (AwL ((Md i).getD (AxJ (h - 1)) (⟨0,false⟩:EG)).fId (Arb j h ⟨0,false⟩).fId) (some false) (k (.c0 j m (Aw6 h) i))) none) (k (.c0 j m (Aw6 h) i))))) none) ((e i.BO i.Bc).bind fun l=>Aqs (f (Ar8 i)) (Aws l.2.2 (Aws (EF (Qi l.2.1)) (Aqs (d l.1 (Ar8 i)) (Aqr (g i)) (some false)) (some false)) (some false)) (some false)))
def nI:AzH WAb Bool
 |0,_=>none
 |m+1,s=>yJ V4 Fv Av2 mD bf qR yI (nI m) s
def Zm:Om:=MA4 V4 Fv Av2 mD bf qR yI (nI AY)
def NBH:AwF:=fy u1 Zm RD E8 [VAm,Jp,qV,GBH,JA4,CBH,SBb] Tryz.func40 TBb yJ MA4 nI
def NA4 (e:Om) (f:RV) (g:VH):rO:=fun a=>mk (cond a.CZ (some (⟨IK,false,IZ,Mc,[],[],0⟩,false)) ((e a).bind fun d=>cond (!d) (some (⟨IK,false,IZ,Mc,[],[],0⟩,false)) ((f a.BO a.Bc).bind fun b=>(g a.Bc b.2.1).bind fun c=>cond (!b.2.2) (some (⟨IK,false,IZ,Mc,[],[],0⟩,false)) (cond (MZ c.2 (Qi b.2.1)) (some (⟨IK,false,IZ,Mc,[],[],0⟩,false)) (some (⟨a.BO,true,c.1,b.1,[],[],0⟩,true))))))
def NAn:rO:=NA4 Zm bf oL
def UBb:AwF:=BI u1 NAn RD AEn [NBH,JA4,NA3] Tryz.func66 NA4
def OA4:Qj:=fun a b c=>mk (cond (Ard a.Bq) (cond (Pn (Aw2 a)) (some ⟨a.AX,a.Bq++[b],(Aw2 a)++[c],a.Cm,a.CO⟩) none) none)
def WL:Qj:=OA4
def PA4:AwF:=BI u3 WL AVO VB [] Tryz.func67 OA4 [0]
def QA4 (d:rO) (c:Qj):XAh:=fun a=>mk ((d a.AX).bind fun b=>cond (!b.2) (Qn (c a 1 IK)) (Qn (c ⟨b.1,a.Bq,Aw2 a,a.Cm,a.CO⟩ 0 IK)))
def X0:XAh:=QA4 NAn WL
def VBb:AwF:=BI u1 X0 VB VB [UBb,PA4] Tryz.func31 QA4 [0]
def RA4:fD:=fun a=>mk (cond (AwT a (10:Nat)) (some ([],a,Ig [Awx IK,Awx fK,Awx ⟨#[115,101,115,115,105,111,110]⟩,Awx ⟨#[108,111,99,107,101,100]⟩,Awx ⟨#[119,111,114,100]⟩,rW,Awx BAV,Awx ⟨#[110,111,110,101]⟩,Awx ZH,Awx ⟨#[100,111,119,110]⟩] a IK)) none)
def YD:fD:=RA4
def YAb:AwF:=BI u1 YD FN Oh [] Tryz.func111 RA4
def OBH:CG:=fun a=>mk (cond (a<10) (AwZ (Kq a (Aw6 a) (BF TAu)) (some (TAu.extract (BN a) (Ol a)))) (AwZ (Kq (Ad (a*2)) (Ad ((Ad (a*2))+2)) (BF PAu)) (some (PAu.extract (AxJ (a*2)) (AxJ ((Ad (a*2))+2))))))
def internal_strconv_small:CG:=OBH
def WBb:AwF:=BI u1 internal_strconv_small FN Cc [] Tryz.func288 OBH
def internal_strconv_numDigits:En:=fun _=>none
def XBb:AwF:=fs u1 internal_strconv_numDigits wX FN 289
def internal_strconv_formatBase10:fE:=fun _ _=>none
def YBb:AwF:=fs u2 internal_strconv_formatBase10 Ae1 Ae2 290
def PBH:YBD:=fun _ _ _ _ _=>none
def ZBb:AwF:=fs u5 PBH Ae3 Ae4 291
def QBH (e:CG) (b:En) (l:fE) (j:YBD):Yv:=fun a c=>mk (cond (c == 10) (cond (Sl a) (cond (a<100) (Awi (e a)) (cond (Avd a) ((b (Avw (0 - (Avw a)))).bind fun f=>none) ((b (Avw a)).bind fun g=>none))) (cond (Avd a) ((b (Avw (0 - (Avw a)))).bind fun h=>none) ((b (Avw a)).bind fun i=>none))) ((j [] (Avw a) c (Avd a) false).bind fun d=>some d.2))
def RBH:Yv:=QBH internal_strconv_small internal_strconv_numDigits internal_strconv_formatBase10 PBH
def Aor:AwF:=BI u2 RBH wP Cc [WBb,XBb,YBb,ZBb] Tryz.func259 QBH
def SBH (a:Yv):CG:=fun b=>mk (Awi (a b 10))
def internal_strconv_Itoa:CG:=SBH RBH
def BBc:AwF:=BI u1 internal_strconv_Itoa FN Cc [Aor] Tryz.func222 SBH
def TBH (a:CG):CG:=fun b=>mk (Awi (a b))
def strconv_Itoa:CG:=TBH internal_strconv_Itoa
def CBc:AwF:=BI u1 strconv_Itoa FN Cc [BBc] Tryz.func160 TBH
def UBH (a:CG):CG:=fun b=>mk (Awi (a b))
def Xf:CG:=UBH strconv_Itoa
def SA4:AwF:=BI u1 Xf FN Cc [CBc] Tryz.func112 UBH
inductive ZAb where
 |c0 (a:Int) (b:(List EG)) (d e:Int)
def DBc:ZAb->AsN
 |.c0 a b d e=>(tdo Tryz.f113 104,[vi 1 a,vr 8 127 b,vi 9 d,vi 10 e],[])
def TA4 (k:Aw7 ZAb Int):JE:=fun a b=>mk (k (.c0 b (Md a) (He a:Int) 0))
def OAn (k:Aw7 ZAb Int):Aw7 ZAb Int
 |.c0 d b c a=>mk (cond (MZ a c) (cond (AwT a b.length) (cond ((Arb b a ⟨0,false⟩).fId == d) (some a) (k (.c0 d b c (Aw6 a)))) none) AxI)
def nK:AzH ZAb Int
 |0,_=>none
 |m+1,s=>OAn (nK m) s
def nJ:JE:=TA4 (nK AY)
def VBH:AwF:=fy u2 nJ wU FN [] Tryz.func113 DBc OAn TA4 nK
def UA4 (c:fD) (e:RZ):AsE:=fun a f=>mk (cond ((NM a)>=3) (DY (c 3)) ((e f.fText).bind fun d=>cond (!(EU d (Ar8 a).Bv)) ((c 4).bind fun b=>some ([⟨2,IK,Aw6 (NM a),⟨0,0,false,false,false,false,IK,0⟩⟩],b.2.1,b.2.2)) (cond (EF (NM a)) (some ([],0,IK)) (some ([⟨2,IK,0,⟨0,0,false,false,false,false,IK,0⟩⟩],0,IK)))))
def PAn:AsE:=UA4 YD JQ
def EBc:AwF:=BI u2 PAn bM Oh [YAb,RU] Tryz.func114 UA4
def VA4 (d:RZ):qh:=fun a b=>mk (cond (a == 1) ((d b).bind fun c=>some (⟨0,a,true,false,false,true,c,0⟩,true)) (cond (a == 2) ((d b).bind fun e=>some (⟨0,a,true,false,true,false,e,0⟩,true)) (cond (a == 3) (cond ((BF b)<=100) (some (⟨0,a,false,false,false,false,b,0⟩,true)) (some (⟨0,0,false,false,false,false,IK,0⟩,false))) (some (⟨0,0,false,false,false,false,IK,0⟩,false)))))
def QAn:qh:=VA4 JQ
def FBc:AwF:=BI u2 QAn AKr Yb [RU] Tryz.func161 VA4
def WA4 (e:fD) (c:CG):Y1:=fun b d a j=>mk (cond (!j) (DY (e 6)) (cond ((Aww (Ar8 b))>=8) (DY (e 1)) (cond ((Aqu b)>=1000) (DY (e 1)) (cond (AqY a) (cond (Em a) ((c (Awg b)).bind fun f=>some ([⟨3,IK,0,⟨Awg b,Jb a,true,true,FK a,Ari a,Aqz a,a.fNext⟩⟩],0,f)) ((c (Awg b)).bind fun g=>some ([⟨3,IK,0,⟨Awg b,Jb a,true,d.CX,FK a,Ari a,Aqz a,a.fNext⟩⟩],0,g))) (cond (Em a) ((c (Awg b)).bind fun h=>some ([⟨3,IK,0,⟨Awg b,Jb a,d.CY,true,FK a,Ari a,Aqz a,a.fNext⟩⟩],0,h)) ((c (Awg b)).bind fun i=>some ([⟨3,IK,0,⟨Awg b,Jb a,d.CY,d.CX,FK a,Ari a,Aqz a,a.fNext⟩⟩],0,i)))))))
def yx:Y1:=WA4 YD Xf
def WBH:AwF:=BI u4 yx AVP Oh [YAb,SA4] Tryz.func162 WA4
def XA4 (h:CG) (f:qh) (g:Y1):AsE:=fun c a=>mk (cond (a.Aj == 2) ((h (Awg c)).bind fun b=>cond (AwC b fO) (cond (AwC (b++fO) a.fText) ((f a.Aj ((b++fO)++a.fText)).bind fun d=>DY (g c a d.1 d.2)) none) none) ((f a.Aj a.fText).bind fun e=>DY (g c a e.1 e.2)))
def RAn:AsE:=XA4 Xf QAn yx
def GBc:AwF:=BI u2 RAn bM Oh [SA4,FBc,WBH] Tryz.func115 XA4
def YA4 (b:RZ):Avl:=fun a=>mk (AwZ (AwC rW a.BO) (Awi (b (rW++a.BO))))
def y5:Avl:=YA4 JQ
def XBH:AwF:=BI u1 y5 RD Cc [RU] Tryz.func164 YA4
def ZA4 (d e:CG):RZ:=fun b=>mk ((d (BF b)).bind fun a=>AwZ (AwC a b) ((e ((Ad (16 - ((BF (a++b)).tmod 16))).tmod 16)).bind fun c=>AwZ (ArC a b c) (some ((a++b)++c))))
def y7:RZ:=ZA4 WX X9
def YBH:AwF:=BI u1 y7 Cc Cc [gB,CAm] Tryz.func224 ZA4
def AOu (d:LV) (g:WAh) (h:RZ):Avv:=fun e f=>mk ((d e 0 f).bind fun b=>(g b.1 0).bind fun a=>cond (!b.2) (LZ (IK,false)) (cond (!a.2.2) (LZ (IK,false)) (cond ((BF a.1) > 400) (LZ (IK,false)) ((h a.1).bind fun c=>cond (!(EU c b.1)) (LZ (IK,false)) (LZ (a.1,true))))))
def SAn:Avv:=AOu mg WM y7
def IBc:AwF:=BI u2 SAn KJ IQ [IBH,JBH,YBH] Tryz.func163 AOu
def ZBH:qj:=fun a=>mk (some ⟨0,Jb a,AqY a,Em a,false,Ari a,Aqz a,0⟩)
def BA5:qj:=ZBH
def JBc:AwF:=BI u1 BA5 S9 S9 [] Tryz.func166 ZBH
def CA5 (h:Avl) (i:Avv) (j:Y3) (l:qj) (g:Y1):AsE:=fun a c=>mk ((h a).bind fun f=>(i f c.fText).bind fun b=>(j b.1).bind fun d=>(l d.1).bind fun e=>cond b.2 (DY (g a c e d.2)) (DY (g a c e false)))
def TAn:AsE:=CA5 y5 SAn Uw BA5 yx
def KBc:AwF:=BI u2 TAn bM Oh [XBH,IBc,KBH,JBc,WBH] Tryz.func116 CA5
def DA5 (d:OD):ql:=fun a b=>mk ((d a).bind fun c=>Aws (!c) (some false) (Aws (b == 1) (some (!(AqY a))) (Aws (b == 2) (Aws (!(Em a)) (some ((Jb a) != 2)) (some false)) (Aws (b == 3) (some (FK a)) (Aws (b == 4) (some (Ari a)) (some (b == 5)))))))
def UAn:ql:=DA5 WW
def LBc:AwF:=BI u2 UAn AVT E8 [JAa] Tryz.func167 DA5
inductive DAc where
 |c0 (a:Int) (b:(List CS)) (d e:Int)
def MBc:DAc->AsN
 |.c0 a b d e=>(tdo Tryz.f120 104,[vi 1 a,vr 8 157 b,vi 9 d,vi 10 e],[])
def EA5 (k:Aw7 DAc Int):JE:=fun a b=>mk (k (.c0 b (ArI a) (L8 a:Int) 0))
def VAn (k:Aw7 DAc Int):Aw7 DAc Int
 |.c0 d b c a=>mk (cond (MZ a c) (cond (AwT a b.length) (cond ((NK b a).fId == d) (some a) (k (.c0 d b c (Aw6 a)))) none) AxI)
def nY:AzH DAc Int
 |0,_=>none
 |m+1,s=>VAn (nY m) s
def YI:JE:=EA5 (nY AY)
def FA5:AwF:=fy u2 YI wU FN [] Tryz.func120 MBc VAn EA5 nY
def GA5 (e:Aqk) (f:JE):JE:=fun b d=>mk ((e (Ar8 b) d).bind fun a=>cond (!a.2) AxI (cond ((Jb a.1) != 2) AxI ((f b d).bind fun c=>cond (JF c) (cond (AwT c (L8 b)) (some (NK (ArI b) c).fNext) none) (some a.1.fNext))))
def ArG:JE:=GA5 Qx YI
def BBI:AwF:=BI u2 ArG wU FN [TAb,FA5] Tryz.func70 GA5
def HA5 (b:RZ):RZ:=fun c=>mk ((b c).bind fun a=>AwZ ((AwQ Qa Aw9) && (decide (4<=(BF a)))) (some (Arz a Aw9)))
def PN:RZ:=HA5 JQ
def EAc:AwF:=BI u1 PN Cc Cc [RU] Tryz.func336 HA5
inductive FAc where
 |c0 (a:AA) (b d:Int) (e:(List AA))
def NBc:FAc->AsN
 |.c0 a b d e=>(tdo Tryz.f295 232,[vs 0 a,vi 1 b,vo 5 368,vi 7 d],[(368,.sl 9 e)])
def IA5 (c:CG) (d:RZ) (k:Aw7 FAc (List AA)):AwH:=fun a b=>k (.c0 a b 0 [])
def WAn (a:CG) (b:RZ) (k:Aw7 FAc (List AA)):Aw7 FAc (List AA)
 |.c0 d h f g=>mk (cond (f<10) ((a h).bind fun c=>cond (AwC d c) ((a f).bind fun e=>cond (ArC d c e) (cond (AwC ((d++c)++e) (Awx ⟨#[111]⟩)) ((b (((d++c)++e)++(Awx ⟨#[111]⟩))).bind fun i=>cond (Pn g) (k (.c0 d h (Aw6 f) (g++[i]))) none) none) none) none) (some g))
def bg:AzH FAc (List AA)
 |0,_=>none
 |m+1,s=>WAn Jf PN (bg m) s
def nM:AwH:=IA5 Jf PN (bg AY)
def CBI:AwF:=fy u2 nM Q9 VD [VZ,EAc] Tryz.func295 NBc WAn IA5 bg
def JA5:En:=fun a=>some 0
def XAn:En:=JA5
def OBc:AwF:=BI u1 XAn FN FN [] Tryz.func362 JA5
def KA5:En:=fun a=>some 15
def YAn:En:=KA5
def PBc:AwF:=BI u1 YAn FN FN [] Tryz.func363 KA5
inductive GAc where
 |c0 (a:AA) (b d:Int) (e f g:Int)
def QBc:GAc->AsN
 |.c0 a b d e f g=>(tdo Tryz.f335 104,[vs 0 a,vi 1 b,vi 2 d,vi 3 e,vi 13 f,vi 14 g],[])
def LA5 (f:CG) (g:RZ) (k:Aw7 GAc AA):Rf:=fun b c d e a=>k (.c0 b c d e (ite (15<a) 15 a) 0)
def ZAn (a:CG) (b:RZ) (k:Aw7 GAc AA):Aw7 GAc AA
 |.c0 g i j l h f=>mk (cond (MZ f h) ((a i).bind fun c=>(a j).bind fun d=>cond (AwC c d) ((a (Aw3 l f)).bind fun e=>cond (ArC c d e) (cond (ArC (c++d) e g) ((b (((c++d)++e)++g)).bind fun m=>k (.c0 m i j l h (Aw6 f))) none) none) none) (some g))
def nN:AzH GAc AA
 |0,_=>none
 |m+1,s=>ZAn Jf PN (nN m) s
def V9:Rf:=LA5 Jf PN (nN AY)
def DBI:AwF:=fy u5 V9 AVU Cc [VZ,EAc] Tryz.func335 QBc ZAn LA5 nN
inductive HAc where
 |c0 (a:Int) (b d:Nat) (e:AA) (f:(List AA)) (g h:Int)
def RBc:HAc->AsN
 |.c0 a b d e f g h=>(tdo Tryz.f361 488,[vi 1 a,(2,[.one (.fn b)]),(3,[.one (.fn d)]),vs 9 e,vr 15 9 f,vi 16 g,vi 17 h],[])
def MA5 (e f:En) (g:Rf) (h:RZ) (k:Aw7 HAc AA):IAu:=fun a b c d=>mk (cond ((Qd a) != 10) Rn (k (.c0 b c d IK a (Qd a) 0)))
def AF9 (a b:En) (c:Rf) (d:RZ) (k:Aw7 HAc AA):Aw7 HAc AA
 |.c0 j i f h g l e=>mk (cond (MZ e l) (cond (OJ e g) (cond (Nat.beq i 268) none (cond (Nat.beq i 342) none (cond (Nat.beq i 362) ((a e).bind fun m=>cond (Nat.beq f 268) none (cond (Nat.beq f 342) none (cond (Nat.beq f 362) ((a e).bind fun s=>(c (Ig g e IK) j e m s).bind fun n=>cond (AwC h n) (k (.c0 j i f (h++n) g l (Aw6 e))) none) (cond (Nat.beq f 363) ((b e).bind fun t=>(c (Ig g e IK) j e m t).bind fun o=>cond (AwC h o) (k (.c0 j i f (h++o) g l (Aw6 e))) none) none)))) (cond (Nat.beq i 363) ((b e).bind fun p=>cond (Nat.beq f 268) none (cond (Nat.beq f 342) none (cond (Nat.beq f 362) ((a e).bind fun u=>(c (Ig g e IK) j e p u).bind fun q=>cond (AwC h q) (k (.c0 j i f (h++q) g l (Aw6 e))) none) (cond (Nat.beq f 363) ((b e).bind fun v=>(c (Ig g e IK) j e p v).bind fun r=>cond (AwC h r) (k (.c0 j i f (h++r) g l (Aw6 e))) none) none)))) none)))) none) (Awi (d h)))
def YE:AzH HAc AA
 |0,_=>none
 |m+1,s=>AF9 XAn YAn V9 PN (YE m) s
def NA5:IAu:=MA5 XAn YAn V9 PN (YE AY)
def SBc:AwF:=fy u4 NA5 Ae5 Cc [OBc,PBc,DBI,EAc] Tryz.func361 RBc AF9 MA5 YE
def OA5 (a:IAu):Y4:=fun b c=>mk (Awi (a b c 362 363))
def yM:Y4:=OA5 NA5
def TBc:AwF:=BI u2 yM wV Cc [SBc] Tryz.func333 OA5
inductive JAc where
 |c0 (a:AA) (b:Int) (d:(List AA))
def UBc:JAc->AsN
 |.c0 a b d=>(tdo Tryz.f293 232,[vs 0 a,vo 3 240,vi 5 b],[(240,.sl 9 d)])
def PA5 (b:AwH) (c:Y4) (k:Aw7 JAc (List AA)):Y5:=fun a=>k (.c0 a 0 [])
def BAo (a:AwH) (b:Y4) (k:Aw7 JAc (List AA)):Aw7 JAc (List AA)
 |.c0 f c d=>mk (cond (c<4) ((a f c).bind fun e=>(b e c).bind fun g=>cond (Pn d) (k (.c0 f (Aw6 c) (d++[g]))) none) (some d))
def nP:AzH JAc (List AA)
 |0,_=>none
 |m+1,s=>BAo nM yM (nP m) s
def yN:Y5:=PA5 nM yM (nP AY)
def EBI:AwF:=fy u1 yN Cc VD [CBI,TBc] Tryz.func293 UBc BAo PA5 nP
def QA5 (e:CG) (h:RZ):Y6:=fun f g c d=>mk ((e f).bind fun a=>(e g).bind fun b=>AwZ (AwC a b) (AwZ (ArC a b c) (AwZ (ArC (a++b) c d) (AwZ (AwC (((a++b)++c)++d) (Awx ⟨#[110]⟩)) (Awi (h ((((a++b)++c)++d)++(Awx ⟨#[110]⟩))))))))
def YF:Y6:=QA5 Jf PN
def VBc:AwF:=BI u4 YF AVV Cc [VZ,EAc] Tryz.func360 QA5
inductive LAc where
 |c0 (a:Int) (b:(List AA)) (d:Int) (e:(List AA))
def WBc:LAc->AsN
 |.c0 a b d e=>(tdo Tryz.f332 464,[vi 0 a,vr 1 9 b,vo 5 368,vi 6 d],[(368,.sl 9 e)])
def CAo (c:Y6) (k:Aw7 LAc (List AA)):Rh:=fun a b=>k (.c0 a b 0 [])
def yO (a:Y6) (k:Aw7 LAc (List AA)):Aw7 LAc (List AA)
 |.c0 f c b d=>mk (cond (MZ (Aw6 b) (Qd c)) (cond (OJ b c) (cond (Avx (Aw6 b) (Qd c)) ((a f (Qh b) (Ig c b IK) (Ig c (Aw6 b) IK)).bind fun e=>cond (Pn d) (k (.c0 f c (Ad (b+2)) (d++[e]))) none) none) none) (some d))
def YG:AzH LAc (List AA)
 |0,_=>none
 |m+1,s=>yO YF (YG m) s
def WA:Rh:=CAo YF (YG AY)
def FBI:AwF:=fy u2 WA AVW VD [VBc] Tryz.func332 WBc yO CAo YG
inductive NAc where
 |c0 (a:(List AA)) (b:Int)
 |c1 (b:Int) (a:(List AA))
def XBc:NAc->AsN
 |.c0 a b=>(tdo Tryz.f292 464,[vr 0 9 a,vi 3 b],[])
 |.c1 b a=>(tdo Tryz.f292 464,[vo 0 48,vi 3 b],[(48,.sl 9 a)])
def RA5 (b:Rh) (k:Aw7 NAc AA):qm:=fun a=>mk (cond ((Qd a) != 4) Rn (k (.c0 a 1)))
def DAo (a:Rh) (k:Aw7 NAc AA):Aw7 NAc AA
 |.c0 b d=>mk (cond ((Qd b) > 1) ((a d b).bind fun c=>k (.c1 (Aw6 d) c)) (EAV b))
 |.c1 d b=>mk (cond ((Qd b) > 1) ((a d b).bind fun c=>k (.c1 (Aw6 d) c)) (EAV b))
def nR:AzH NAc AA
 |0,_=>none
 |m+1,s=>DAo WA (nR m) s
def EAo:qm:=RA5 WA (nR AY)
def YBc:AwF:=fy u1 EAo AVX Cc [FBI] Tryz.func292 XBc DAo RA5 nR
def SA5 (b:Y5) (d:qm):RZ:=fun c=>mk ((b c).bind fun a=>Awi (d a))
def nS:RZ:=SA5 yN EAo
def GBI:AwF:=BI u1 nS Cc Cc [EBI,YBc] Tryz.func260 SA5
inductive OAc where
 |c0 (a:Int) (d:AA) (e:Int) (b:(List Int))
 |c1 (a f g:Int) (b:(List Int))
def ZBc:OAc->AsN
 |.c0 a d e b=>(tdo Tryz.f334 1000,[vo 3 240,vi 4 a,vs 5 d,vi 11 e],[(240,.sl 3 b)])
 |.c1 a f g b=>(tdo Tryz.f334 2024,[vo 3 240,vi 4 a,vo 28 240,vi 29 f,vi 30 g],[(240,.sl 3 b)])
def TA5 (b:RZ) (k:Aw7 OAc (List Int)):H6:=fun c=>(b c).bind fun a=>k (.c0 0 a 0 [])
def nT (a:RZ) (k:Aw7 OAc (List Int)):Aw7 OAc (List Int)
 |.c0 e c b d=>mk (cond (b<4) (cond (Avx b (BF c)) (cond (Avx b (BF c)) (cond (Ej ((d.length+2)*8)) (k (.c0 e c (Aw6 b) (d++[Ad (Av4 (bt c b) (Aq3 (BN Aw9) Ar3)),Ad (w8 ((BitVec.toNat ((BitVec.ofInt Ar3 (bt c b)) &&& (BitVec.ofInt Ar3 15)):Nat):Int))]))) none) none) none) (k (.c1 e (NZ d) 0 d)))
 |.c1 d e c b=>mk (cond (MZ c e) (cond (AsI c b) (k (.c1 (Aw3 d (Ad (15 - (Arn b c)))) e (Aw6 c) b)) none) (Arv (Ej ((b.length+2)*8)) (Ld (b++[fU d,d.tmod 16]))))
def WB:AzH OAc (List Int)
 |0,_=>none
 |m+1,s=>nT PN (WB m) s
def yP:H6:=TA5 PN (WB AY)
def ApG:AwF:=fy u1 yP Cc JZ [EAc] Tryz.func334 ZBc nT TA5 WB
inductive QAc where
 |c0 (a:Int) (b:(List AA)) (d e:Int) (f:(List Int)) (g:(List AA))
def BBd:QAc->AsN
 |.c0 a b d e f g=>(tdo Tryz.f294 1000,[vi 1 a,vo 7 496,vo 8 560,vr 16 9 b,vi 17 d,vi 18 e],[(496,.sl 3 f),(560,.sl 9 g)])
def UA5 (c:H6) (f:Rf) (k:Aw7 QAc (List AA)):qo:=fun a e d=>mk (cond ((Qd a) != 10) (some []) ((c d).bind fun b=>k (.c0 e a (Qd a) 0 b [])))
def FAo (a:H6) (b:Rf) (k:Aw7 QAc (List AA)):Aw7 QAc (List AA)
 |.c0 i d g c e f=>mk (cond (MZ c g) (cond (OJ c d) (cond (AsI c e) ((b (Ig d c IK) i c 0 (Arn e c)).bind fun h=>cond (Pn f) (k (.c0 i d g (Aw6 c) e (f++[h]))) none) none) none) (some f))
def nU:AzH QAc (List AA)
 |0,_=>none
 |m+1,s=>FAo yP V9 (nU m) s
def GAo:qo:=UA5 yP V9 (nU AY)
def CBd:AwF:=fy u3 GAo AVY VD [ApG,DBI] Tryz.func294 BBd FAo UA5 nU
inductive RAc where
 |c0 (a:(List AA)) (b d:Int) (e:(List AA))
 |c1 (b d:Int) (a e:(List AA))
def DBd:RAc->AsN
 |.c0 a b d e=>(tdo Tryz.f296 976,[vr 0 9 a,vi 1 b,vo 5 368,vi 6 d],[(368,.sl 9 e)])
 |.c1 b d a e=>(tdo Tryz.f296 976,[vo 0 48,vi 1 b,vo 5 368,vi 6 d],[(48,.sl 9 a),(368,.sl 9 e)])
def VA5 (d:AwU) (e:Rh) (k:Aw7 RAc (List AA)):qp:=fun a c=>mk (cond ((Qd a) != 4) (some []) ((d c 0 3).bind fun b=>cond (!b) (some []) (k (.c0 a c 1 []))))
def HAo (a:AwU) (b:Rh) (k:Aw7 RAc (List AA)):Aw7 RAc (List AA)
 |.c0 c d g e=>mk (cond ((Qd c) > 1) (cond (Avx (Ad (UAU d)) (Qd c)) (cond (Pn e) ((b g c).bind fun f=>k (.c1 (Qh d) (Aw6 g) f (e++[c.getD (AxJ (UAU d)) (Awx IK)]))) none) none) (some e))
 |.c1 d g c e=>mk (cond ((Qd c) > 1) (cond (Avx (Ad (UAU d)) (Qd c)) (cond (Pn e) ((b g c).bind fun f=>k (.c1 (Qh d) (Aw6 g) f (e++[c.getD (AxJ (UAU d)) (Awx IK)]))) none) none) (some e))
def YH:AzH RAc (List AA)
 |0,_=>none
 |m+1,s=>HAo Fv WA (YH m) s
def IAo:qp:=VA5 Fv WA (YH AY)
def EBd:AwF:=fy u2 IAo wV VD [Jp,FBI] Tryz.func296 DBd HAo VA5 YH
def WA5 (h:AwU) (i:AwH) (j:qo) (m:Y5) (n:qp):qw:=fun d a l=>mk ((h a 0 3).bind fun b=>cond (!b) (some (fP,false)) ((i d a).bind fun c=>(j c a l).bind fun e=>(m d).bind fun f=>(n f a).bind fun g=>some (⟨a,e,g⟩,true)))
def nV:qw:=WA5 Fv nM GAo yN IAo
def FBd:AwF:=BI u3 nV VA AVZ [Jp,CBI,CBd,EBI,EBd] Tryz.func261 WA5
def XA5 (i:AwU) (j:CG) (l:RZ) (g:qw):qx:=fun a c m=>mk ((i c 0 15).bind fun e=>cond (!e) (some (⟨fP,IK,fP⟩,false)) ((j (ZL c)).bind fun b=>cond (AwC a b) (cond (AwC (a++b) rX) ((l ((a++b)++rX)).bind fun d=>(g ((a++b)++rX) (c.tmod 4) m).bind fun f=>cond (AwC a AxA) ((g (a++AxA) (ZL c) d).bind fun h=>some (⟨h.1,d,f.1⟩,true)) none) none) none))
def JAo:qx:=XA5 Fv Jf nS nV
def GBd:AwF:=BI u3 JAo VA AVa [Jp,VZ,GBI,FBd] Tryz.func227 XA5
inductive SAc where
 |c0 (a:(List AA)) (b:Int) (d:(List AA)) (e f:Int)
def HBd:SAc->AsN
 |.c0 a b d e f=>(tdo Tryz.f337 104,[vr 0 9 a,vi 1 b,vr 7 9 d,vi 8 e,vi 9 f],[])
def YA5 (k:Aw7 SAc Bool):JAu:=fun a b=>mk (k (.c0 a b a (Qd a) 0))
def ZA5 (k:Aw7 SAc Bool):Aw7 SAc Bool
 |.c0 d e b c a=>mk (cond (MZ a c) (cond (OJ a b) (cond ((BF (Ig b a IK)) != 4) (some false) (k (.c0 d e b c (Aw6 a)))) none) (some ((Qd d) == e)))
def yQ:AzH SAc Bool
 |0,_=>none
 |m+1,s=>ZA5 (yQ m) s
def KAo:JAu:=YA5 (yQ AY)
def IBd:AwF:=fy u2 KAo wV E8 [] Tryz.func337 HBd ZA5 YA5 yQ
def AOB (c:AwU) (b:JAu):Y7:=fun a=>mk (Aqs (c a.Dv 0 3) (Aqs (b a.Fg 10) (Aqr (b a.Gn 2)) (some false)) (some false))
def yR:Y7:=AOB Fv KAo
def JBd:AwF:=BI u1 yR AEo E8 [Jp,IBd] Tryz.func297 AOB
inductive VAc where
 |c0 (a:AA) (b:(List AA)) (d e:Int) (f:IL)
 |c1 (a:AA) (g:(List AA)) (h i:Int)
def KBd:VAc->AsN
 |.c0 a d e f b=>(tdo Tryz.f262 488,[vp 1 64,vs 4 a,vr 16 9 d,vi 17 e,vi 18 f],[(64,.var [li b.Dv,.BG 9 b.Fg,.BG 9 b.Gn])])
 |.c1 a g h i=>(tdo Tryz.f262 1000,[vs 4 a,vr 27 9 g,vi 28 h,vi 29 i],[])
def BA6 (d:Y7) (e:CG) (k:Aw7 VAc (AA×Bool)):qy:=fun a=>mk ((d a).bind fun b=>cond (!b) (LZ (IK,false)) ((e a.Dv).bind fun c=>k (.c0 c a.Fg (Qd a.Fg) 0 a)))
def nX (a:Y7) (b:CG) (k:Aw7 VAc (AA×Bool)):Aw7 VAc (AA×Bool)
 |.c0 e d g c f=>mk (cond (MZ c g) (cond (OJ c d) (cond (AwC e (Ig d c IK)) (k (.c0 (e++(Ig d c IK)) d g (Aw6 c) f)) none) none) (k (.c1 e f.Gn (Qd f.Gn) 0)))
 |.c1 e d f c=>mk (cond (MZ c f) (cond (OJ c d) (cond (AwC e (Ig d c IK)) (k (.c1 (e++(Ig d c IK)) d f (Aw6 c))) none) none) (LZ (e,true)))
def WC:AzH VAc (AA×Bool)
 |0,_=>none
 |m+1,s=>nX yR Jf (WC m) s
def LAo:qy:=BA6 yR Jf (WC AY)
def LBd:AwF:=fy u1 LAo AEo IQ [JBd,VZ] Tryz.func262 KBd nX BA6 WC
def CA6 (d:qy):rC:=fun a=>mk ((d a.QU).bind fun b=>(d a.QV).bind fun c=>cond (!b.2) (LZ (IK,false)) (cond (!c.2) (LZ (IK,false)) (cond ((BF a.QS) != 4) (LZ (IK,false)) (Eo (AwC b.1 a.QS) (Eo (AwC (b.1++a.QS) c.1) (LZ ((b.1++a.QS)++c.1,true)))))))
def MAo:rC:=CA6 LAo
def MBd:AwF:=BI u1 MAo AVb IQ [LBd] Tryz.func228 CA6
def DA6 (e:JE) (g:fD) (h:qx) (j:rC):Ri:=fun f i a=>mk ((e f a.fId).bind fun b=>cond (b>=16) (DY (g 1)) ((h (Aqz a) b i.fText).bind fun d=>(j d.1).bind fun c=>cond (b != a.fNext) (some ([],0,c.1)) (some ([⟨3,IK,0,⟨a.fId,Jb a,AqY a,Em a,FK a,Ari a,Aqz a,ite (16<(Ad (a.fNext+3))) 16 (Ad (a.fNext+3))⟩⟩],0,c.1))))
def NAo:Ri:=DA6 ArG YD JAo MAo
def NBd:AwF:=BI u3 NAo AEp Oh [BBI,YAb,GBd,MBd] Tryz.func168 DA6
def EA6 (d:RZ) (e:LV):Avv:=fun f b=>mk (cond ((BF b) > 400) (LZ (IK,false)) ((d b).bind fun c=>(e f 0 c).bind fun a=>LZ (a.1,a.2)))
def OAo:Avv:=EA6 y7 yX
def OBd:AwF:=BI u2 OAo KJ IQ [YBH,XBG] Tryz.func169 EA6
inductive WAc where
 |c0 (a:AA) (b:Int) (d e:(List Int))
def PBd:WAc->AsN
 |.c0 a b d e=>(tdo Tryz.f365 232,[vs 0 a,vp 2 128,vp 3 192,vi 5 b],[(128,.ar 274 d),(192,.ar 274 e)])
def FA6 (k:Aw7 WAc (List Int)):H6:=fun a=>mk (k (.c0 a 0 ZK ZK))
def GA6 (k:Aw7 WAc (List Int)):Aw7 WAc (List Int)
 |.c0 c b d a=>mk (cond (b<200) (cond (GR a) (cond (Awe (Pq b) a) (cond (Avx b (BF c)) (cond (Sl (Ad (8*(b.tmod 8)))) (cond (GR a) (cond (Awe (Pq b) a) (k (.c0 c (Aw6 b) d (a.set (AxJ (Pq b)) (Avw (ZI Awo (Ud a (Pq b)) (Avw ((Avw (bt c b))*(Aq3 (AxJ (8*(b.tmod 8))) Awo)))))))) none) none) none) none) none) none) (Arv (GR a) (Arv ((Rl a d) && (GR a)) (Arv ((GR a) && true) (Ld a)))))
def oO:AzH WAc (List Int)
 |0,_=>none
 |m+1,s=>GA6 (oO m) s
def PAo:H6:=FA6 (oO AY)
def QBd:AwF:=fy u1 PAo Cc U9 [] Tryz.func365 PBd GA6 FA6 oO
def HA6:Fe:=fun b a=>mk (cond (Sl (Avw (64 - (JAi a)))) (some (Avw (ZI Awo (Avw (b*(Aq3 (BN (JAi a)) Awo))) (Av4 b (Aq3 (BN (Avw (64 - (JAi a)))) Awo))))) none)
def YK:Fe:=HA6
def HBI:AwF:=BI u2 YK AVc wX [] Tryz.func385 HA6
inductive XAc where
 |c0 (e:(List Int)) (f:Int) (a b d:(List Int))
 |c1 (g:Int) (a b d:(List Int))
def RBd:XAc->AsN
 |.c0 e f a b d=>(tdo Tryz.f377 232,[vp 1 64,vp 2 128,vp 3 192,(8,[.arr 274 e]),vi 9 f],[(64,.ar 274 a),(128,.ar 274 b),(192,.ar 274 d)])
 |.c1 g a b d=>(tdo Tryz.f377 488,[vp 1 64,vp 2 128,vp 3 192,vi 21 g],[(64,.ar 274 a),(128,.ar 274 b),(192,.ar 274 d)])
def IA6 (b:Fe) (k:Aw7 XAc (List Int)):FQ:=fun a=>mk (cond (GR a) (k (.c0 a 0 a ZK [0,0,0,0,0])) none)
def zA (a:Fe) (k:Aw7 XAc (List Int)):Aw7 XAc (List Int)
 |.c0 d b e f c=>mk (cond (b<25) (cond (GR d) (cond (AsI b d) (cond (Nat.beq 5 c.length) (cond (Avx (Si b) (NZ c)) (cond (Nat.beq 5 c.length) (cond (Avx (Si b) (NZ c)) (k (.c0 d (Aw6 b) e f (c.set (BN (Si b)) (Avw (Ii Awo (Arn c (Si b)) (Arn d b)))))) none) none) none) none) none) none) (k (.c1 0 e f c)))
 |.c1 c b f d=>mk (cond (c<25) (cond (GR b) (cond (AsI c b) (cond (Nat.beq 5 d.length) (cond (Avx (Si (Ad ((Si c)+4))) (NZ d)) (cond (Nat.beq 5 d.length) (cond (Avx (Si (Aw6 (Si c))) (NZ d)) ((a (Arn d (Si (Aw6 (Si c)))) 1).bind fun e=>cond (GR b) (cond (AsI c b) (k (.c1 (Aw6 c) (b.set (BN c) (Avw (Ii Awo (Arn b c) (Avw (Ii Awo (Arn d (Si (Ad ((Si c)+4)))) e))))) f d)) none) none) none) none) none) none) none) none) (Arv (GR b) (Arv ((Rl b f) && (GR b)) (Arv ((GR b) && true) (Ld b)))))
def WO:AzH XAc (List Int)
 |0,_=>none
 |m+1,s=>zA YK (WO m) s
def y9:FQ:=IA6 YK (WO AY)
def SBd:AwF:=fy u1 y9 U9 U9 [HBI] Tryz.func377 RBd zA IA6 WO
inductive ACk where
 |c0 (a b d:Int) (e f g:(List Int))
def TBd:ACk->AsN
 |.c0 a b d e f g=>(tdo Tryz.f378 1000,[vp 1 64,vp 2 128,vp 3 192,vi 4 a,vi 5 b,vi 13 d],[(64,.ar 274 e),(128,.ar 274 f),(192,.ar 274 g)])
def JA6 (b:Fe) (k:Aw7 ACk (List Int)):FQ:=fun a=>mk (cond (GR a) (cond (Av8 a) (k (.c0 1 0 0 a ZK [Arn a Qa,0,0,0,0,0,0,0,0,0,0,0,0,0,0,0,0,0,0,0,0,0,0,0,0])) none) none)
def KA6 (a:Fe) (k:Aw7 ACk (List Int)):Aw7 ACk (List Int)
 |.c0 d b e f h c=>mk (cond (e<24) (cond (GR f) (cond (Awe (Aqp d b) f) ((a (Ud f (Aqp d b)) ((Qh (Ad ((Aw6 e)*(Ad (e+2))))).tmod 64)).bind fun g=>cond (GR c) (cond (Awe (Aqp b (fV d b)) c) (k (.c0 b (fV d b) (Aw6 e) f h (c.set (AxJ (Aqp b (fV d b))) g))) none) none) none) none) (Arv (GR c) (Arv ((Rl c h) && (GR c)) (Arv ((GR c) && true) (Ld c)))))
def oP:AzH ACk (List Int)
 |0,_=>none
 |m+1,s=>KA6 YK (oP m) s
def zB:FQ:=JA6 YK (oP AY)
def UBd:AwF:=fy u1 zB U9 U9 [HBI] Tryz.func378 TBd KA6 JA6 oP
inductive CAd where
 |c0 (a:Int) (b d e:(List Int))
 |c1 (f a g:Int) (b d e:(List Int))
def VBd:CAd->AsN
 |.c0 a b d e=>(tdo Tryz.f379 232,[vp 1 64,vp 2 128,vp 3 192,vi 6 a],[(64,.ar 274 b),(128,.ar 274 d),(192,.ar 274 e)])
 |.c1 f a g b d e=>(tdo Tryz.f379 59800,[vp 1 64,vp 2 128,vp 3 192,vi 4 f,vi 6 a,vi 9 g],[(64,.ar 274 b),(128,.ar 274 d),(192,.ar 274 e)])
def LA6 (k:Aw7 CAd (List Int)):FQ:=fun a=>mk (k (.c0 0 a ZK ZK))
def QAo (k:Aw7 CAd (List Int)):Aw7 CAd (List Int)
 |.c0 b d c a=>mk (cond (b<5) (k (.c1 b b 0 d c a)) (Arv (GR a) (Arv ((Rl a c) && (GR a)) (Arv ((GR a) && true) (Ld a)))))
 |.c1 c e b a f d=>mk (cond (b<5) (cond (GR a) (cond (Awe (Aqp b c) a) (cond (GR a) (cond (Awe ((Si (Aw6 b))+(Ad (5*c))) a) (cond (GR a) (cond (Awe ((Si (Ad (b+2)))+(Ad (5*c))) a) (cond (GR d) (cond (Awe (Aqp b c) d) (k (.c1 c e (Aw6 b) a f (d.set (AxJ (Aqp b c)) (Avw (Ii Awo (Ud a (Aqp b c)) (Avw (Ot Awo (Avw ((BitVec.toNat ((BitVec.ofInt Awo (ite ((IntKind.signed IntKind.u64) = true) (-Awl) (IntKind.max IntKind.u64))) ^^^ (BitVec.ofInt Awo (Ud a ((Si (Aw6 b))+(Ad (5*c)))))):Nat):Int)) (Ud a ((Si (Ad (b+2)))+(Ad (5*c))))))))))) none) none) none) none) none) none) none) none) (k (.c0 (Aw6 e) a f d)))
def YL:AzH CAd (List Int)
 |0,_=>none
 |m+1,s=>QAo (YL m) s
def zC:FQ:=LA6 (YL AY)
def WBd:AwF:=fy u1 zC U9 U9 [] Tryz.func379 VBd QAo LA6 YL
inductive EAd where
 |c0 (a b d:Int)
def XBd:EAd->AsN
 |.c0 a b d=>(tdo Tryz.f386 232,[vi 3 a,vi 4 b,vi 5 d],[])
def IBI (k:Aw7 EAd Int):En:=fun a=>k (.c0 1 a 0)
def JBI (k:Aw7 EAd Int):Aw7 EAd Int
 |.c0 a c b=>mk (cond (MZ b c) (cond ((Ad (a*(Awk Awl)))>=256) (k (.c0 (Ad (KAi H7 (LAi (a*(Awk Awl))))) c (Aw6 b))) (k (.c0 (Ad (a*(Awk Awl))) c (Aw6 b)))) (some (Avw (Ad (VW H7 a)))))
def MA6:AzH EAd Int
 |0,_=>none
 |m+1,s=>JBI (MA6 m) s
def NA6:En:=IBI (MA6 AY)
def YBd:AwF:=fy u1 NA6 FN wX [] Tryz.func386 XBd JBI IBI MA6
inductive FAd where
 |c0 (a b d:Int)
def ZBd:FAd->AsN
 |.c0 a b d=>(tdo Tryz.f380 232,[vi 0 a,(3,[.one (.int .u64 b)]),vi 5 d],[])
def KBI (b:En) (k:Aw7 FAd Int):En:=fun a=>k (.c0 a 0 0)
def LBI (a:En) (k:Aw7 FAd Int):Aw7 FAd Int
 |.c0 d e b=>mk (cond (b<7) ((a (Aw3 b (Ad (7*d)))).bind fun c=>cond (Sl b) (cond (Sl (Avw ((Avw (1*(Aq3 (BN b) Awo))) - 1))) (k (.c0 d (Avw (ZI Awo e (Avw (c*(Aq3 (BN (Avw ((Avw (1*(Aq3 (BN b) Awo))) - 1))) Awo))))) (Aw6 b))) none) none) (some e))
def OA6:AzH FAd Int
 |0,_=>none
 |m+1,s=>LBI NA6 (OA6 m) s
def RAo:En:=KBI NA6 (OA6 AY)
def Apg:AwF:=fy u1 RAo FN wX [YBd] Tryz.func380 ZBd LBI KBI OA6
inductive GAd where
 |c0 (a:Int) (b d:(List Int))
def BBe:GAd->AsN
 |.c0 a b d=>(tdo Tryz.f364 104,[vp 1 64,vp 2 128,vi 4 a],[(64,.ar 274 b),(128,.ar 274 d)])
def PA6 (b c d:FQ) (e:En) (k:Aw7 GAd (List Int)):FQ:=fun a=>mk (k (.c0 0 a ZK))
def QA6 (a b c:FQ) (d:En) (k:Aw7 GAd (List Int)):Aw7 GAd (List Int)
 |.c0 g f l=>mk (cond (g<24) (cond (GR f) ((a f).bind fun h=>(b h).bind fun i=>(c i).bind fun e=>cond ((Rl e f) && (GR e)) (cond (GR e) (cond (Av8 e) ((d g).bind fun j=>cond (GR e) (cond (Av8 e) (k (.c0 (Aw6 g) (e.set (BN Qa) (Avw (Ii Awo (Arn e Qa) j))) l)) none) none) none) none) none) none) (Arv (GR f) (Arv ((Rl f l) && (GR f)) (Arv ((GR f) && true) (Ld f)))))
def zD:AzH GAd (List Int)
 |0,_=>none
 |m+1,s=>QA6 y9 zB zC RAo (zD m) s
def SAo:FQ:=PA6 y9 zB zC RAo (zD AY)
def CBe:AwF:=fy u1 SAo U9 U9 [SBd,UBd,WBd,Apg] Tryz.func364 BBe QA6 PA6 zD
inductive IAd where
 |c0 (a b:Int) (d e:(List Int))
def DBe:IAd->AsN
 |.c0 a b d e=>(tdo Tryz.f366 232,[vp 1 64,vo 3 240,vi 7 a,vi 8 b],[(64,.ar 274 d),(240,.sl 5 e)])
def RA6 (k:Aw7 IAd AA):Ie:=fun a=>mk (k (.c0 (NZ (Qp (200:Int))) 0 a (Qp (200:Int))))
def SA6 (k:Aw7 IAd AA):Aw7 IAd AA
 |.c0 d a b c=>mk (cond (MZ a d) (cond (GR b) (cond (Awe (Pq a) b) (cond (Sl (Ad (8*(a.tmod 8)))) (cond (AsI a c) (k (.c0 d (Aw6 a) b (c.set (BN a) (w8 (Av4 (Ud b (Pq a)) (Aq3 (AxJ (8*(a.tmod 8))) Awo)))))) none) none) none) none) (ArO c))
def oQ:AzH IAd AA
 |0,_=>none
 |m+1,s=>SA6 (oQ m) s
def TAo:Ie:=RA6 (oQ AY)
def EBe:AwF:=fy u1 TAo U9 Cc [] Tryz.func366 DBe SA6 RA6 oQ
def TA6 (d:H6) (e:FQ) (f:Ie):RZ:=fun a=>mk (cond ((BF a) != 200) (some a) ((d a).bind fun b=>(e b).bind fun c=>Awi (f c)))
def dF:RZ:=TA6 PAo SAo TAo
def MBI:AwF:=BI u1 dF Cc Cc [QBd,CBe,EBe] Tryz.func339 TA6
inductive JAd where
 |c0 (a:Int) (b:(List Int))
 |c1 (a d:Int) (b e:(List Int))
 |c2 (a d:Int) (f g:Int) (b e:(List Int))
def FBe:JAd->AsN
 |.c0 a b=>(tdo Tryz.f338 224,[vi 1 a,vo 7 496],[(496,.sl 5 b)])
 |.c1 a d b e=>(tdo Tryz.f338 4048,[vi 1 a,vo 7 496,vo 8 560,vi 9 d],[(496,.sl 5 b),(560,.sl 5 e)])
 |.c2 a d f g b e=>(tdo Tryz.f338 259208,[vi 1 a,vo 7 496,vo 8 560,vi 9 d,vi 40 f,vi 41 g],[(496,.sl 5 b),(560,.sl 5 e)])
def UA6 (d:RZ) (k:Aw7 JAd AA):rD:=fun a b c=>mk (cond (Pz a) (cond (NS (Aq6 a)) (k (.c0 b ((Aq6 a)++[c]))) none) none)
def Yd (a:RZ) (k:Aw7 JAd AA):Aw7 JAd AA
 |.c0 c b=>mk (cond (!(EF c)) (cond (((NZ b).tmod c) != 0) (cond (NS b) (k (.c0 c (b++[Qa]))) none) (cond (Awe ((NZ b) - 1) b) (cond (Awe ((NZ b) - 1) b) (k (.c1 c 0 (VAu b) (Qp (200:Int)))) none) none)) none)
 |.c1 d b c e=>mk (cond (MZ b (NZ c)) (k (.c2 d b d 0 c e)) (ArO e))
 |.c2 f d h b e c=>mk (cond (MZ b h) (cond (AsI b c) (cond (Awe (d+b) e) (cond (AsI b c) (k (.c2 f d h (Aw6 b) e (c.set (BN b) (w8 (Ii Ar3 (Arn c b) (Ud e (d+b))))))) none) none) none) ((a (ofBytes c)).bind fun g=>cond (Pz g) (k (.c1 f (Aw3 d f) e (Aq6 g))) none))
def Ob:AzH JAd AA
 |0,_=>none
 |m+1,s=>Yd dF (Ob m) s
def zF:rD:=UA6 dF (Ob AY)
def GBe:AwF:=fy u3 zF AVd Cc [MBI] Tryz.func338 FBe Yd UA6 Ob
def VA6 (b:rD):ArN:=fun c=>(b c 168 31).bind fun a=>some ⟨a,0⟩
def oU:ArN:=VA6 zF
def NBI:AwF:=BI u1 oU Cc AVe [GBe] Tryz.func303 VA6
inductive LAd where
 |c0 (a:Int) (b:AA) (d e:F6)
def HBe:LAd->AsN
 |.c0 d e a b=>(tdo Tryz.f304 480,[vi 1 d,vp 2 128,vp 4 256,vs 6 e],[(128,.var [.str a.F7,li a.ER]),(256,.var [.str b.F7,li b.ER])])
def WA6 (c:AwU) (f:RZ) (k:Aw7 LAd (F6×AA)):ArX:=fun a d=>mk ((c d 0 4000).bind fun b=>cond (!b) (some (a,IK)) (cond ((BF a.F7) != 200) (some (a,IK)) ((c a.ER 0 168).bind fun e=>cond (!e) (some (a,IK)) (k (.c0 d IK a ⟨IK,0⟩)))))
def XA6 (a:AwU) (b:RZ) (k:Aw7 LAd (F6×AA)):Aw7 LAd (F6×AA)
 |.c0 e c d g=>mk (cond (MZ (BF c) e) (cond (d.ER == 168) ((b d.F7).bind fun f=>cond (((decide (Qa<=Qa)) && (Sl (Ad (0+(ite (Aqh<(La e c)) Aqh (La e c)))))) && (AwQ (Ad (0+(ite (Aqh<(La e c)) Aqh (La e c)))) (BF f))) (cond (AwC c (ArD f Qa (0+(ite (Aqh<(La e c)) Aqh (La e c))))) (k (.c0 e (c++(ArD f Qa (0+(ite (Aqh<(La e c)) Aqh (La e c))))) ⟨f,Ad (0+(ite (Aqh<(La e c)) Aqh (La e c)))⟩ g)) none) none) (cond (Kq d.ER (Ad (d.ER+(ite ((Avk d)<(La e c)) (Avk d) (La e c)))) (BF d.F7)) (cond (AwC c (ArD d.F7 d.ER (d.ER+(ite ((Avk d)<(La e c)) (Avk d) (La e c))))) (k (.c0 e (c++(ArD d.F7 d.ER (d.ER+(ite ((Avk d)<(La e c)) (Avk d) (La e c))))) ⟨d.F7,Ad (d.ER+(ite ((Avk d)<(La e c)) (Avk d) (La e c)))⟩ g)) none) none)) (some (d,c)))
def gW:AzH LAd (F6×AA)
 |0,_=>none
 |m+1,s=>XA6 Fv dF (gW m) s
def ZU:ArX:=WA6 Fv dF (gW AY)
def OBI:AwF:=fy u2 ZU AVf AVg [Jp,MBI] Tryz.func304 HBe XA6 WA6 gW
def YA6 (e:AwU) (f:ArN) (h:ArX):Y9:=fun g b=>mk ((e b 0 4000).bind fun a=>cond (!a) (LZ (IK,false)) ((f g).bind fun c=>(h c b).bind fun d=>LZ (d.2,true)))
def gX:Y9:=YA6 Fv oU ZU
def IBe:AwF:=BI u2 gX Q9 IQ [Jp,NBI,OBI] Tryz.func302 YA6
def ZA6:En:=fun a=>mk (some (ZG ((a.tmod 3329)+3329)))
def ArQ:En:=ZA6
def MAd:AwF:=BI u1 ArQ FN FN [] Tryz.func301 ZA6
inductive NAd where
 |c0 (a:AA) (b d:Int) (e:(List Int))
def JBe:NAd->AsN
 |.c0 a b d e=>(tdo Tryz.f264 488,[vs 5 a,vo 7 496,vi 20 b,vi 21 d],[(496,.sl 3 e)])
def AI1 (d:CG) (f:Y9) (g:En) (k:Aw7 NAd (List Int)):TM:=fun b e=>mk ((d e).bind fun a=>cond (AwC b a) ((f (b++a) 128).bind fun c=>k (.c0 c.1 (NZ XI) 0 XI)) none)
def BA7 (a:CG) (b:Y9) (c:En) (k:Aw7 NAd (List Int)):Aw7 NAd (List Int)
 |.c0 e g d f=>mk (cond (MZ d g) (cond (Avx (Qh d) (BF e)) (cond (Sl (Ad (4*(d.tmod 2)))) ((c (AqZ (AqZ (NQ (VW H7 (YAU e d)) (VW H7 (Av4 (YAU e d) (Awk Awl)))) (Ad (VW H7 (Av4 (YAU e d) (Awk (2:Int)))))) (Ad (VW H7 (Av4 (YAU e d) (Awk (3:Int))))))).bind fun h=>cond (AsI d f) (k (.c0 e g (Aw6 d) (f.set (BN d) h))) none) none) none) (Ld f))
def gY:AzH NAd (List Int)
 |0,_=>none
 |m+1,s=>BA7 Jf gX ArQ (gY m) s
def sJ:TM:=AI1 Jf gX ArQ (gY AY)
def KBe:AwF:=fy u2 sJ Q9 JZ [VZ,IBe,MAd] Tryz.func264 JBe BA7 AI1 gY
inductive PAd where
 |c0 (a:AA) (b d:Int) (e:(List (List Int)))
def LBe:PAd->AsN
 |.c0 a b d e=>(tdo Tryz.f230 232,[vs 0 a,vi 1 b,vo 5 368,vi 7 d],[(368,.sl 37 e)])
def CA7 (c:TM) (k:Aw7 PAd (List (List Int))):YAh:=fun a b=>k (.c0 a b 0 [])
def UAo (a:TM) (k:Aw7 PAd (List (List Int))):Aw7 PAd (List (List Int))
 |.c0 e f b c=>mk (cond (TR b) ((a e (Aw3 f b)).bind fun d=>cond (XG c) (k (.c0 e f (Aw6 b) (c++[d]))) none) (some c))
def sN:AzH PAd (List (List Int))
 |0,_=>none
 |m+1,s=>UAo sJ (sN m) s
def ZY:YAh:=CA7 sJ (sN AY)
def MBe:AwF:=fy u2 ZY Q9 AEd [KBe] Tryz.func230 LBe UAo CA7 sN
inductive RAd where
 |c0 (a b:(List Int)) (d e:Int)
def NBe:RAd->AsN
 |.c0 a b d e=>(tdo Tryz.f265 104,[vr 0 3 a,vr 5 3 b,vi 6 d,vi 7 e],[])
def DA7 (b:AwU) (k:Aw7 RAd Bool):Av0:=fun a=>mk (k (.c0 a a (NZ a) 0))
def VAo (a:AwU) (k:Aw7 RAd Bool):Aw7 RAd Bool
 |.c0 f c d b=>mk (cond (MZ b d) (cond (AsI b c) ((a (Arn c b) 0 3328).bind fun e=>cond (!e) (some false) (k (.c0 f c d (Aw6 b)))) none) (some ((NZ f) == 256)))
def gq:AzH RAd Bool
 |0,_=>none
 |m+1,s=>VAo Fv (gq m) s
def AqX:Av0:=DA7 Fv (gq AY)
def WAo:AwF:=fy u1 AqX Wn E8 [Jp] Tryz.func265 NBe VAo DA7 gq
def EA7:FQ:=fun a=>mk (Arv (Ej (a.length*8)) (Ld a))
def sQ:FQ:=EA7
def OBe:AwF:=BI u1 sQ Wn JZ [] Tryz.func298 EA7
inductive TAd where
 |c0 (a b d:Int)
def PBe:TAd->AsN
 |.c0 a b d=>(tdo Tryz.f300 232,[vi 0 a,vi 3 b,vi 5 d],[])
def FA7 (k:Aw7 TAd Int):En:=fun a=>k (.c0 a 0 0)
def GA7 (k:Aw7 TAd Int):Aw7 TAd Int
 |.c0 b c a=>mk (cond (a<7) (cond (Sl a) (k (.c0 b (NQ (2*c) (VW H7 (Av4 b (Awk a)))) (Aw6 a))) none) (some c))
def sS:AzH TAd Int
 |0,_=>none
 |m+1,s=>GA7 (sS m) s
def Za:En:=FA7 (sS AY)
def PBI:AwF:=fy u1 Za FN FN [] Tryz.func300 PBe GA7 FA7 sS
inductive VAd where
 |c0 (a b d:Int)
def QBe:VAd->AsN
 |.c0 a b d=>(tdo Tryz.f299 992,[vi 0 a,vi 1 b,vi 5 d],[])
def HA7 (d:AwU) (e:En) (k:Aw7 VAd Int):Fe:=fun f b=>(d b 0 1000000000).bind fun a=>cond (!a) (some 0) ((e f).bind fun c=>k (.c0 c b 1))
def IA7 (a:AwU) (b:En) (k:Aw7 VAd Int):Aw7 VAd Int
 |.c0 c d e=>mk (cond (Arf d) (cond (ArT d) (k (.c0 (ZG (c*c)) (Qh d) (fG e c))) (k (.c0 (ZG (c*c)) (Qh d) e))) (some e))
def sU:AzH VAd Int
 |0,_=>none
 |m+1,s=>IA7 Fv ArQ (sU m) s
def Zb:Fe:=HA7 Fv ArQ (sU AY)
def QBI:AwF:=fy u2 Zb wP FN [Jp,MAd] Tryz.func299 QBe IA7 HA7 sU
inductive XAd where
 |c0 (a b:Int) (d:(List Int))
 |c1 (a b e:Int) (d:(List Int))
 |c2 (a b:Int) (e f g:Int) (d:(List Int))
def RBe:XAd->AsN
 |.c0 a b d=>(tdo Tryz.f263 2000,[vo 3 240,vi 4 a,vi 5 b],[(240,.sl 3 d)])
 |.c1 a b e d=>(tdo Tryz.f263 128144,[vo 3 240,vi 4 a,vi 5 b,vi 6 e],[(240,.sl 3 d)])
 |.c2 a b e f g d=>(tdo Tryz.f263 32805488,[vo 3 240,vi 4 a,vi 5 b,vi 6 e,vi 7 f,vi 8 g],[(240,.sl 3 d)])
def JA7 (d:Av0) (e:FQ) (f:En) (g:Fe) (h:En) (k:Aw7 XAd (List Int)):FQ:=fun b=>mk ((d b).bind fun a=>cond (!a) (Ld []) ((e b).bind fun c=>k (.c0 1 128 c)))
def Ze (a:Av0) (b:FQ) (c:En) (d:Fe) (e:En) (k:Aw7 XAd (List Int)):Aw7 XAd (List Int)
 |.c0 h f g=>mk (cond (f>=2) (k (.c1 h f 0 g)) (Ld g))
 |.c1 g j f l=>mk (cond (Aqw f) ((c g).bind fun h=>(d 17 h).bind fun i=>k (.c2 (Aw6 g) j f i f l)) (k (.c0 g (Qh j) l)))
 |.c2 n h i l f g=>mk (cond (MZ f (Aw3 i h)) (cond (Awe (f+h) g) (cond (AsI f g) ((e (Aw3 (Arn g f) (Ad (l*(Ud g (f+h)))))).bind fun j=>cond (AsI f g) ((e (AqZ (Arn g f) (Ad (l*(Ud g (f+h)))))).bind fun m=>cond (AsI f g) (cond (Awe (f+h) (g.set (BN f) j)) (k (.c2 n h i l (Aw6 f) ((g.set (BN f) j).set (AxJ (f+h)) m))) none) none) none) none) none) (k (.c1 n h (Aw3 i (Ad (2*h))) g)))
def Pv:AzH XAd (List Int)
 |0,_=>none
 |m+1,s=>Ze AqX sQ Za Zb ArQ (Pv m) s
def Zd:FQ:=JA7 AqX sQ Za Zb ArQ (Pv AY)
def RBI:AwF:=fy u1 Zd Wn JZ [WAo,OBe,PBI,QBI,MAd] Tryz.func263 RBe Ze JA7 Pv
inductive YAd where
 |c0 (a:(List (List Int))) (b d:Int) (e:(List (List Int)))
def SBe:YAd->AsN
 |.c0 a b d e=>(tdo Tryz.f229 232,[vo 3 240,vr 6 37 a,vi 7 b,vi 8 d],[(240,.sl 37 e)])
def KA7 (b:FQ) (k:Aw7 YAd (List (List Int))):ZAh:=fun a=>k (.c0 a (a.length:Int) 0 [])
def LA7 (a:FQ) (k:Aw7 YAd (List (List Int))):Aw7 YAd (List (List Int))
 |.c0 c e b d=>mk (cond (MZ b e) (cond (AwT b c.length) ((a (c.getD (BN b) [])).bind fun f=>cond (XG d) (k (.c0 c e (Aw6 b) (d++[f]))) none) none) (some d))
def XAo:AzH YAd (List (List Int))
 |0,_=>none
 |m+1,s=>LA7 Zd (XAo m) s
def Zf:ZAh:=KA7 Zd (XAo AY)
def TBe:AwF:=fy u1 Zf Ae6 AEd [RBI] Tryz.func229 SBe LA7 KA7 XAo
inductive ZAd where
 |c0 (a b:Int) (d:F6) (e:(List Int))
 |c1 (a b:Int) (f g:Int) (d:F6) (e h:(List Int))
def UBe:ZAd->AsN
 |.c0 b d a e=>(tdo Tryz.f270 2000,[vp 7 448,vo 8 560,vi 9 b,vi 10 d],[(448,.var [.str a.F7,li a.ER]),(560,.sl 3 e)])
 |.c1 b d f g a e h=>(tdo Tryz.f270 512632,[vp 7 448,vo 8 560,vi 9 b,vi 10 d,vo 60 3888,vi 61 f,vi 62 g],[(448,.var [.str a.F7,li a.ER]),(560,.sl 3 e),(3888,.sl 3 h)])
def MA7 (d:CG) (h:ArN) (i:ArX) (k:Aw7 ZAd (List Int)):Y8:=fun b f g=>mk ((d f).bind fun a=>cond (AwC b a) ((d g).bind fun c=>cond (ArC b a c) ((h ((b++a)++c)).bind fun e=>k (.c0 0 0 e XI)) none) none)
def iC (a:CG) (b:ArN) (c:ArX) (k:Aw7 ZAd (List Int)):Aw7 ZAd (List Int)
 |.c0 g f h e=>mk (cond (f<4000) (cond (Aqw g) ((c h 3).bind fun d=>cond (VI Qa (BF d.2)) (cond (GAV (BF d.2)) (cond (CAV (BF d.2)) (k (.c1 g f ((2:Nat):Int) 0 d.1 e [NQ (bt d.2 0) (((Ad (bt d.2 1)).tmod 16)*256),NQ ((Ad (bt d.2 1)).tdiv 16) (16*(Ad (bt d.2 2)))])) none) none) none) (Ld e)) (Ld e))
 |.c1 e i h d j g f=>mk (cond (MZ d h) (cond (AsI d f) (cond (ZM (Arn f d)) (cond (Aqw e) (cond (AsI e g) (k (.c1 (Aw6 e) i h (Aw6 d) j (g.set (BN e) (Arn f d)) f)) none) (k (.c1 e i h (Aw6 d) j g f))) (k (.c1 e i h (Aw6 d) j g f))) none) (k (.c0 e (Aw6 i) j g)))
def Ar1:AzH ZAd (List Int)
 |0,_=>none
 |m+1,s=>iC Jf oU ZU (Ar1 m) s
def Zg:Y8:=MA7 Jf oU ZU (Ar1 AY)
def VBe:AwF:=fy u3 Zg wR JZ [VZ,NBI,OBI] Tryz.func270 UBe iC MA7 Ar1
inductive AC1 where
 |c0 (a:AA) (b:Int) (d:Bool) (e:Int) (f:(List (List Int)))
def WBe:AC1->AsN
 |.c0 a b d e f=>(tdo Tryz.f234 232,[vs 0 a,vi 1 b,vb 2 d,vo 7 496,vi 9 e],[(496,.sl 37 f)])
def NA7 (d:Y8) (k:Aw7 AC1 (List (List Int))):AIU:=fun a b c=>k (.c0 a b c 0 [])
def OA7 (a:Y8) (k:Aw7 AC1 (List (List Int))):Aw7 AC1 (List (List Int))
 |.c0 d e f b c=>mk (cond (TR b) (cond f ((a d e b).bind fun g=>cond (XG c) (k (.c0 d e f (Aw6 b) (c++[g]))) none) ((a d b e).bind fun h=>cond (XG c) (k (.c0 d e f (Aw6 b) (c++[h]))) none)) (some c))
def YAo:AzH AC1 (List (List Int))
 |0,_=>none
 |m+1,s=>OA7 Zg (YAo m) s
def Zi:AIU:=NA7 Zg (YAo AY)
def XBe:AwF:=fy u3 Zi AU3 AEd [VBe] Tryz.func234 WBe OA7 NA7 YAo
inductive BAe where
 |c0 (a b:(List Int)) (d:Int) (e:(List Int))
def YBe:BAe->AsN
 |.c0 a b d e=>(tdo Tryz.f269 488,[vr 0 3 a,vr 1 3 b,vo 5 368,vi 21 d],[(368,.sl 3 e)])
def PA7 (b:Av0) (f:En) (g:Fe) (h:En) (k:Aw7 BAe (List Int)):Aq1:=fun c e=>mk ((b c).bind fun a=>cond (!a) (Ld []) ((b e).bind fun d=>cond (!d) (Ld []) (k (.c0 c e 0 XI))))
def QA7 (a:Av0) (b:En) (c:Fe) (d:En) (k:Aw7 BAe (List Int)):Aw7 BAe (List Int)
 |.c0 f g e h=>mk (cond (e<128) ((b e).bind fun j=>(c 17 (Avo j)).bind fun l=>cond (Awe (2*e) f) (cond (Avx (Avo e) (NZ f)) (cond (Awe (2*e) g) (cond (Avx (Avo e) (NZ g)) ((d (NQ ((Ud f (2*e))*(Ud g (2*e))) ((fG (Arn f (Avo e)) (Arn g (Avo e)))*l))).bind fun i=>cond (Awe (2*e) h) ((d (NQ ((Ud f (2*e))*(Arn g (Avo e))) ((Arn f (Avo e))*(Ud g (2*e))))).bind fun m=>cond (Avx (Avo e) (NZ (h.set (AxJ (2*e)) i))) (k (.c0 f g (Aw6 e) ((h.set (AxJ (2*e)) i).set (BN (Avo e)) m))) none) none) none) none) none) none) (Ld h))
def iE:AzH BAe (List Int)
 |0,_=>none
 |m+1,s=>QA7 AqX Za Zb ArQ (iE m) s
def sV:Aq1:=PA7 AqX Za Zb ArQ (iE AY)
def ZBe:AwF:=fy u2 sV bK JZ [WAo,PBI,QBI,MAd] Tryz.func269 YBe QA7 PA7 iE
def RA7:Fe:=fun a b=>mk (some (Aw3 a b))
def ZAo:Fe:=RA7
def Ap8:AwF:=BI u2 ZAo wP FN [] Tryz.func268 RA7
def SBI:Fe:=fun a b=>mk (some (AqZ a b))
def SA7:Fe:=SBI
def BBf:AwF:=BI u2 SA7 wP FN [] Tryz.func342 SBI
inductive DAe where
 |c0 (a b:(List Int)) (d:Nat) (e f:Int) (g:(List Int))
def CBf:DAe->AsN
 |.c0 a b d e f g=>(tdo Tryz.f267 488,[vr 0 3 a,vr 1 3 b,(2,[.one (.fn d)]),vo 7 496,vi 19 e,vi 20 f],[(496,.sl 3 g)])
def TA7 (b:Av0) (g h:Fe) (i:En) (k:Aw7 DAe (List Int)):KAu:=fun c e f=>mk ((b c).bind fun a=>cond (!a) (Ld []) ((b e).bind fun d=>cond (!d) (Ld []) (k (.c0 c e f (NZ XI) 0 XI))))
def ADR (a:Av0) (b c:Fe) (d:En) (k:Aw7 DAe (List Int)):Aw7 DAe (List Int)
 |.c0 g h f j e i=>mk (cond (MZ e j) (cond (AsI e g) (cond (AsI e h) (cond (Nat.beq f 268) ((b (Arn g e) (Arn h e)).bind fun l=>(d l).bind fun m=>cond (AsI e i) (k (.c0 g h f j (Aw6 e) (i.set (BN e) m))) none) (cond (Nat.beq f 342) ((c (Arn g e) (Arn h e)).bind fun n=>(d n).bind fun o=>cond (AsI e i) (k (.c0 g h f j (Aw6 e) (i.set (BN e) o))) none) (cond (Nat.beq f 362) none (cond (Nat.beq f 363) none none)))) none) none) (Ld i))
def iG:AzH DAe (List Int)
 |0,_=>none
 |m+1,s=>ADR AqX ZAo SA7 ArQ (iG m) s
def BAp:KAu:=TA7 AqX ZAo SA7 ArQ (iG AY)
def DBf:AwF:=fy u3 BAp Ae7 JZ [WAo,Ap8,BBf,MAd] Tryz.func267 CBf ADR TA7 iG
def UA7 (b:KAu):Aq1:=fun c d=>mk ((b c d 268).bind fun a=>Ld a)
def Avc:Aq1:=UA7 BAp
def TBI:AwF:=BI u2 Avc bK JZ [DBf] Tryz.func232 UA7
inductive EAe where
 |c0 (a:(List (List Int))) (b:(List (List Int))) (d e:Int) (f:(List Int))
def EBf:EAe->AsN
 |.c0 a b d e f=>(tdo Tryz.f233 232,[vr 0 37 a,vr 1 37 b,vo 5 368,vi 9 d,vi 10 e],[(368,.sl 3 f)])
def VA7 (c d:Aq1) (k:Aw7 EAe (List Int)):Rj:=fun a b=>mk (k (.c0 a b (a.length:Int) 0 XI))
def CAp (a b:Aq1) (k:Aw7 EAe (List Int)):Aw7 EAe (List Int)
 |.c0 d e f c i=>mk (cond (MZ c f) (cond (AwT c d.length) (cond (AwT c e.length) ((a (d.getD (BN c) []) (e.getD (BN c) [])).bind fun g=>(b i g).bind fun h=>k (.c0 d e f (Aw6 c) h)) none) none) (Ld i))
def iH:AzH EAe (List Int)
 |0,_=>none
 |m+1,s=>CAp sV Avc (iH m) s
def Xc:Rj:=VA7 sV Avc (iH AY)
def UBI:AwF:=fy u2 Xc AUj JZ [ZBe,TBI] Tryz.func233 EBf CAp VA7 iH
inductive FAe where
 |c0 (a:Int) (b:(List Int)) (d e:Int) (f:(List Int))
 |c1 (a g h:Int) (b:(List Int)) (d e:Int) (i j:Int) (f:(List Int))
def FBf:FAe->AsN
 |.c0 a b d e f=>(tdo Tryz.f266 232,[vi 1 a,vo 5 368,vr 17 3 b,vi 18 d,vi 19 e],[(368,.sl 5 f)])
 |.c1 a g h b d e i j f=>(tdo Tryz.f266 59800,[vi 1 a,vo 5 368,vi 6 g,vi 7 h,vr 17 3 b,vi 18 d,vi 19 e,vi 24 i,vi 25 j],[(368,.sl 5 f)])
def WA7 (k:Aw7 FAe AA):rG:=fun a b=>mk (cond ((HAi (Ad (Pq (Ad ((Ad ((NZ a)*b))+7))))) && (Ej ((AxJ (Pq (Ad ((Ad ((NZ a)*b))+7))))*1))) (k (.c0 b a (NZ a) 0 (List.replicate (AxJ (Pq (Ad ((Ad ((NZ a)*b))+7)))) Qa))) none)
def DAp (k:Aw7 FAe AA):Aw7 FAe AA
 |.c0 d b c a e=>mk (cond (MZ a c) (cond (AsI a b) (k (.c1 d a (Arn b a) b c a d 0 e)) none) (ArO e))
 |.c1 b c f g h i e a d=>mk (cond (MZ a e) (cond (Awe (Pq (Aw3 (Ad (c*b)) a)) d) (cond (Sl a) (cond (Sl ((Aw3 (Ad (c*b)) a).tmod 8)) (cond (Awe (Pq (Aw3 (Ad (c*b)) a)) d) (k (.c1 b c f g h i e (Aw6 a) (d.set (AxJ (Pq (Aw3 (Ad (c*b)) a))) (w8 (ZI Ar3 (Ud d (Pq (Aw3 (Ad (c*b)) a))) (w8 ((w8 (Ad (VW H7 (Av4 f (Awk a)))))*(Aq3 (BN ((Aw3 (Ad (c*b)) a).tmod 8)) Ar3)))))))) none) none) none) none) (k (.c0 b g h (Aw6 i) d)))
def Xd:AzH FAe AA
 |0,_=>none
 |m+1,s=>DAp (Xd m) s
def sW:rG:=WA7 (Xd AY)
def VBI:AwF:=fy u2 sW wQ Cc [] Tryz.func266 FBf DAp WA7 Xd
def XA7 (c:Av0) (d:rG):Ie:=fun b=>mk ((c b).bind fun a=>cond (!a) Rn (Awi (d b 12)))
def Zk:Ie:=XA7 AqX sW
def GBf:AwF:=BI u1 Zk Wn Cc [WAo,VBI] Tryz.func231 XA7
inductive HAe where
 |c0 (a b:AA) (d e:AA) (f:Int) (g:Ky) (h:(List (List Int))) (i:(List (List Int)))
def HBf:HAe->AsN
 |.c0 b d e f g a h i=>(tdo Tryz.f170 4072,[vp 2 128,vs 4 b,vs 5 d,vo 7 496,vo 8 560,vs 9 e,vs 10 f,vi 30 g],[(128,.var [.str a.bH,.str a.bI]),(496,.sl 37 h),(560,.sl 37 i)])
def YA7 (b:RZ) (g:YAh) (i:ZAh) (m:AIU) (n:Rj) (o:Aq1) (p:Ie) (k:Aw7 HAe (Ky×Bool)):ZA:=fun d=>mk (cond ((BF d) != 32) (some (⟨IK,IK⟩,false)) ((b d).bind fun a=>cond (AwC a (Awx ⟨#[114]⟩)) ((b (a++(Awx ⟨#[114]⟩))).bind fun e=>cond (AwC a (Awx ⟨#[115]⟩)) ((b (a++(Awx ⟨#[115]⟩))).bind fun c=>(g c 0).bind fun f=>(i f).bind fun h=>(g c 2).bind fun j=>(i j).bind fun l=>k (.c0 a e IK IK 0 ⟨IK,IK⟩ h l)) none) none))
def su (a:RZ) (b:YAh) (c:ZAh) (d:AIU) (e:Rj) (f:Aq1) (g:Ie) (k:Aw7 HAe (Ky×Bool)):Aw7 HAe (Ky×Bool)
 |.c0 r h i l j w m o=>mk (cond (TR j) ((d h j false).bind fun t=>(e t m).bind fun u=>cond (AwT j o.length) ((f u (o.getD (BN j) [])).bind fun v=>(g v).bind fun p=>cond (AwC i p) (cond (AwT j m.length) ((g (m.getD (BN j) [])).bind fun q=>cond (AwC l q) (k (.c0 r h (i++p) (l++q) (Aw6 j) w m o)) none) none) none) none) (cond (AwC i h) (cond (AwC l (i++h)) ((a (i++h)).bind fun n=>cond (ArC l (i++h) n) (cond (AwC r (Awx ⟨#[122]⟩)) ((a (r++(Awx ⟨#[122]⟩))).bind fun s=>cond (ArC (l++(i++h)) n s) (some (⟨i++h,((l++(i++h))++n)++s⟩,true)) none) none) none) none) none))
def iJ:AzH HAe (Ky×Bool)
 |0,_=>none
 |m+1,s=>su JQ ZY Zf Zi Xc Avc Zk (iJ m) s
def sZ:ZA:=YA7 JQ ZY Zf Zi Xc Avc Zk (iJ AY)
def WBI:AwF:=fy u1 sZ Cc AUk [RU,MBe,TBe,XBe,UBI,TBI,GBf] Tryz.func170 HBf su YA7 iJ
def ZA7:rE:=fun _=>none
def IBf:AwF:=fs u1 ZA7 Cc AUl 305
def ASB:LAu:=fun _ _ _=>none
def JBf:AwF:=fs u3 ASB wR AKk 306
def BA8:fE:=fun _ _=>none
def KBf:AwF:=fs u2 BA8 wQ JZ 307
def CA8:FQ:=fun _=>none
def LBf:AwF:=fs u1 CA8 Wn JZ 309
def DA8:Aq1:=fun _ _=>none
def MBf:AwF:=fs u2 DA8 bK JZ 308
inductive KAe where
 |c0 (a:AA) (b:Int) (d:(List (List Int))) (e:(List (List Int)))
def NBf:KAe->AsN
 |.c0 a b d e=>(tdo Tryz.f271 2024,[vs 1 a,vo 6 432,vo 8 560,vi 29 b],[(432,.sl 37 d),(560,.sl 37 e)])
def EA8 (d:rE) (e:LAu) (f:fE) (g:FQ) (h:Rj) (i:FQ) (j:Aq1) (k:Aw7 KAe (List Int×Bool)):rF:=fun b c=>mk (cond ((BF b) != 1632) (some ([],false)) (cond ((BF c) != 768) (some ([],false)) ((d b).bind fun a=>cond (!a.2) (some ([],false)) (k (.c0 c 0 a.1 [])))))
def XBI (a:rE) (b:LAu) (c:fE) (d:FQ) (e:Rj) (f:FQ) (g:Aq1) (k:Aw7 KAe (List Int×Bool)):Aw7 KAe (List Int×Bool)
 |.c0 i h o j=>mk (cond (TR h) (cond (Kq (Ad (h*320)) (Ad ((Aw6 h)*320)) (BF i)) ((b (i.extract (AxJ (h*320)) (AxJ ((Aw6 h)*320))) 10 256).bind fun l=>(c l.1 10).bind fun m=>(d m).bind fun n=>cond (XG j) (k (.c0 i (Aw6 h) o (j++[n]))) none) none) (cond ((AwQ Qa (640:Int)) && (decide (640<=(BF i)))) ((b (Aqq i (640:Int)) 4 256).bind fun p=>(c p.1 4).bind fun q=>(e o j).bind fun r=>(f r).bind fun s=>(g q s).bind fun t=>some (t,true)) none))
def FA8:AzH KAe (List Int×Bool)
 |0,_=>none
 |m+1,s=>XBI ZA7 ASB BA8 Zd Xc CA8 DA8 (FA8 m) s
def GA8:rF:=EA8 ZA7 ASB BA8 Zd Xc CA8 DA8 (FA8 AY)
def OBf:AwF:=fy u2 GA8 KJ AKk [IBf,JBf,KBf,RBI,UBI,LBf,MBf] Tryz.func271 NBf XBI EA8 FA8
def YBI:fE:=fun _ _=>none
def PBf:AwF:=fs u2 YBI wQ JZ 272
def HA8 (d:rF) (g:fE) (h:rG):Avv:=fun e f=>mk ((d e f).bind fun a=>cond (!a.2) (LZ (IK,false)) ((g a.1 1).bind fun b=>(h b 1).bind fun c=>LZ (c,true)))
def IA8:Avv:=HA8 GA8 YBI sW
def QBf:AwF:=BI u2 IA8 KJ IQ [OBf,PBf,VBI] Tryz.func235 HA8
def ZBI:RAh:=fun _ _=>none
def RBf:AwF:=fs u2 ZBI KJ AUm 236
def JA8 (h:Avv) (i:RAh) (f:RZ):Avv:=fun a b=>mk ((h a b).bind fun d=>cond (!d.2) (LZ (IK,false)) (Eo (ZAu a) ((i (a.extract (BN (768:Int)) (BN (1568:Int))) d.1).bind fun c=>cond c.2.2 (cond (EU c.1 b) (LZ (c.2.1,true)) (Eo ((AwQ Qa (1600:Int)) && (decide (1600<=(BF a)))) (Eo (AwC (Aqq a (1600:Int)) b) ((f ((Aqq a (1600:Int))++b)).bind fun e=>LZ (e,true))))) (Eo ((AwQ Qa (1600:Int)) && (decide (1600<=(BF a)))) (Eo (AwC (Aqq a (1600:Int)) b) ((f ((Aqq a (1600:Int))++b)).bind fun g=>LZ (g,true)))))))
def iK:Avv:=JA8 IA8 ZBI JQ
def SBf:AwF:=BI u2 iK KJ IQ [QBf,RBf,RU] Tryz.func171 JA8
def KA8 (e:OD):rH:=fun a c b=>mk ((e a).bind fun d=>cond (!d) (some (⟨0,0,false,false,false,false,IK,0⟩,false)) (cond (AqY a) (cond (!c) (some (⟨0,0,false,false,false,false,IK,0⟩,false)) (cond (Em a) (cond (!b) (some (⟨0,0,false,false,false,false,IK,0⟩,false)) (some (W9 a c b,true))) (some (W9 a c b,true)))) (cond (Em a) (cond (!b) (some (⟨0,0,false,false,false,false,IK,0⟩,false)) (some (W9 a c b,true))) (some (W9 a c b,true)))))
def EAp:rH:=KA8 WW
def TBf:AwF:=BI u3 EAp AUn Yb [JAa] Tryz.func172 KA8
def LA8 (b:RZ):RZ:=fun a=>mk (AwZ (AwC a AxA) (Awi (b (a++AxA))))
def FAp:RZ:=LA8 nS
def UBf:AwF:=BI u1 FAp Cc Cc [GBI] Tryz.func237 LA8
def MA8 (d:OD) (e:ZA) (f:RZ):rJ:=fun a=>mk ((d a).bind fun b=>cond (!b) Rn (cond ((Jb a) == 1) ((e (Aqz a)).bind fun c=>some c.1.bH) (cond ((Jb a) == 2) (Awi (f (Aqz a))) Rn)))
def GAp:rJ:=MA8 WW sZ FAp
def VBf:AwF:=BI u1 GAp S9 Cc [JAa,WBI,UBf] Tryz.func173 MA8
def NA8 (d:ql) (r:Ri) (s:Awt) (t:Avl) (u:Avv) (v:ZA) (w:Avv) (c:fD) (x:rH) (y:rJ):Ri:=fun i a b=>mk (cond (a.Au == 6) ((d b 1).bind fun g=>cond g (some ([],0,Aqz b)) (DY (c 8))) (cond (a.Au == 5) ((d b 3).bind fun h=>cond h (DY (r i a b)) (DY (c 8))) (cond (a.Au == 10) ((d b 2).bind fun j=>cond j ((s b).bind fun l=>(t i).bind fun m=>(u m l.1).bind fun n=>some ([],0,n.1)) (DY (c 8))) (cond (a.Au == 12) ((d b 4).bind fun o=>cond o ((v (Aqz b)).bind fun p=>(w p.1.bI a.fText).bind fun e=>cond (!e.2) (DY (c 6)) (some ([],0,e.1))) (DY (c 8))) (cond (a.Au == 8) ((x b a.CY a.CX).bind fun f=>cond f.2 (some ([⟨3,IK,0,f.1⟩],0,IK)) (DY (c 8))) (cond (a.Au == 7) ((y b).bind fun q=>some ([],0,q)) (cond (a.Au == 9) (some ([⟨4,IK,b.fId,⟨0,0,false,false,false,false,IK,0⟩⟩],0,IK)) (DY (c 8)))))))))
def HAp:Ri:=NA8 UAn NAo qN y5 OAo sZ iK YD EAp GAp
def WBf:AwF:=BI u3 HAp AEp Oh [LBc,NBd,SA2,XBH,OBd,WBI,SBf,YAb,TBf,VBf] Tryz.func117 NA8
def IAp (j:Om) (l:Wh) (c:fD) (m:CG) (n:JE) (o:AsE) (p:RZ) (q r:AsE) (s:Aqk) (t:Ri):AsE:=fun b a=>mk ((j b).bind fun f=>cond (!f) (DY (c 9)) (cond (!b.CZ) (DY (c 9)) ((l a).bind fun g=>cond (!g) (DY (c 9)) (cond ((Qm b)>=10000) (DY (c 9)) (cond (a.Au == 1) (cond ((He b:Int)>=3) (DY (c 1)) (cond ((Fz b)>=1000) (DY (c 1)) ((m (Aw6 (Fz b))).bind fun h=>some ([],0,h)))) ((n b (AxD a)).bind fun d=>cond (Avd d) (DY (c 2)) (cond (a.Au == 13) (some ([],0,IK)) (cond (a.Au == 2) (DY (o b a)) (cond (AwT d (He b)) (cond (!(Arb (Md b) d ⟨0,false⟩).QW) (DY (c 5)) (cond (a.Au == 3) (cond ((BF a.fText) > 20) (DY (c 6)) ((p a.fText).bind fun i=>some ([⟨1,i,0,⟨0,0,false,false,false,false,IK,0⟩⟩],0,IK))) (cond (a.Au == 4) (DY (q b a)) (cond (a.Au == 11) (DY (r b a)) ((s (Ar8 b) a.Ag).bind fun e=>cond (!e.2) (DY (c 7)) (DY (t b a e.1))))))) none)))))))))
def Avi:AsE:=IAp Zm yK YD Xf nJ PAn JQ RAn TAn Qx HAp
def XBf:AwF:=BI u2 Avi bM Oh [NBH,FBH,YAb,SA4,VBH,EBc,RU,GBc,KBc,TAb,WBf] Tryz.func68 IAp
inductive LAe where
 |c0 (a:(List Int)) (b d:Int) (e f:(List BQ))
def YBf:LAe->AsN
 |.c0 a b d e f=>(tdo Tryz.f174 488,[vr 1 3 a,vp 4 256,vp 6 384,vi 18 b,vi 19 d],[(256,.var [.own 1016384]),(384,.var [.own 1024576]),(1016384,.sl 90 e),(1024576,.sl 90 f)])
def OA8 (d:Arj) (e:WY) (k:Aw7 LAe (BU×Bool)):qU:=fun c f=>mk ((d c).bind fun b=>cond (!b) (Qb (IZ,false)) ((e c).bind fun a=>k (.c0 f (AxK a:Int) 0 [] a.Ak)))
end
end Go.Proofs.YtkbbicgglblfiaaGreatDoor.G
