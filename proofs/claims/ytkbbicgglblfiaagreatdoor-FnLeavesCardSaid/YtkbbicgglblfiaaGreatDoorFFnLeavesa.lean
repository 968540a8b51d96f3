/- Functions of the program, told by plain functions: part 1 of 2. -/
import Derived.Test.YtkbbicgglblfiaaGreatDoorCtx
namespace Go.Proofs.YtkbbicgglblfiaaGreatDoor.G
open Go Go.Ev
noncomputable section
set_option linter.unusedVariables false
set_option maxRecDepth 100000
set_option maxHeartbeats 4000000
set_option linter.unusedSectionVars false
variable [PC]
abbrev Awe:=Fk ctx PP
abbrev Avy:=ATo ctx
abbrev qL:=Unit->Option Bool
abbrev XAs:=Unit->Option DZ
abbrev UAT:=DZ->Option (Int×DZ)
abbrev Uz:=DZ->Int->Option (Int×DZ)
abbrev Yt:=Int->Int->Option AA
abbrev Aqy:=Option (List Int)
abbrev Ic:=List Int->Option AA
abbrev YAs:=Option IW
abbrev AqW:=Int->Int->Int->Option Bool
abbrev qM:=IW->Option Bool
abbrev TAg:=AA->Int->Option Int
abbrev Hw:=AA->Option (List Int)
abbrev ZAs:=Int->Int->Int->Option Int
abbrev UAg:=Int->Int->Int->Int->Bool->Option Int
abbrev qN:=List Int->List Int->AA->Option (List Int)
abbrev AQd:=IW->AA->Option IW
abbrev BAt:=IW->Option AA
abbrev CG:=AA->Option AA
abbrev Om:=Option Bo
abbrev Bl:=Int->Option AA
abbrev Arl:=Af->Option Bool
abbrev CAt:=Bool->Int->Option Int
abbrev Aqv:=Af->Option (AA×Bool)
abbrev AwL:=Ah->Option (AA×Bool)
abbrev AqC:=Bo->Option Bool
abbrev Ql:=Bo->Option Bo
abbrev MJ:=Bo->Int->Option (Af×Bool)
abbrev eG:=Af->Af->Option Bool
abbrev VAg:=List Af->Af->Option (List Af)
abbrev AwA:=Bo->Ah->Option (Bo×Bool)
abbrev U6:=AA->Int->Option AA
abbrev MQ:=AA->AA->Option AA
abbrev Yu:=AA->Int->Int->Option (AA×Bool)
abbrev Yv:=AA->Int->AA->Option AA
abbrev Tn:=AA->Int->AA->Option (AA×Bool)
abbrev qO:=Int->AA->Option Int
abbrev Yw:=AA->Option Int
abbrev Ap5:=AA->Option (AA×Bool)
abbrev XD:=AA->Int->Ah->Option (List Ef×Bool)
abbrev VAT:=AA->Option Bool
abbrev MH:=BU->Option Bool
abbrev Aqr:=BU->AA->Option Int
abbrev qP:=BU->BQ->Option BU
abbrev Yx:=BU->AA->Option BU
abbrev Yy:=BU->Ef->Option (BU×Bool)
abbrev U5:=BU->List Ef->Option (BU×Int)
abbrev WAT:=AA->BU->Int->Ah->Option BU
abbrev eF:=AA->AA->Option (Ap×Bool)
abbrev qJ:=AA->AA->Option (Bg×Bool)
abbrev eH:=DZ->Int->Option (Bool×DZ)
abbrev WAg:=DZ->List Int->Option (Int×DZ)
abbrev XAT:=DZ->List AA->Option (AA×DZ)
abbrev DAt:=DZ->Int->Option (AA×DZ)
abbrev XAg:=DZ->Option (Af×DZ)
abbrev ArW:=Ap->Option AA
abbrev Avk:=AA->AA->Option (AA×Bool)
abbrev EAt:=DZ->Ap->AA->Option (CV×DZ)
abbrev YAg:=DZ->Bg->Option (DW×DZ×Bg)
abbrev Qj:=Bg->Int->AA->Option Bg
abbrev eP:=Int->AA->Option (List Ah×Int×AA)
abbrev Qc:=Int->Option Int
abbrev eU:=List Ah->AA->Option (List Ah×Int×AA)
abbrev JC:=Ap->Int->Option Int
abbrev Jl:=Ap->CV->Option (List Ah×Int×AA)
abbrev qQ:=Int->AA->Option (Af×Bool)
abbrev YAT:=Af->Option (List Ah)
abbrev Yz:=Ap->CV->Af->Bool->Option (List Ah×Int×AA)
abbrev FAt:=AA->AA->Option Bool
abbrev Qo:=AA->Int->Option (Int×Int×Bool)
abbrev Y0:=Jz->Option (Int×Jz)
abbrev ZAT:=Jz->Int->Option (AA×Jz)
abbrev GAt:=Jz->Option (AA×Jz)
abbrev Y1:=AA->Option (Af×Bool)
abbrev qR:=Af->Option Af
abbrev qU:=Af->Int->Option Bool
abbrev ZAg:=Ap->Af->Option Int
abbrev ArV:=AA->Int->Option (List AA)
abbrev Aqf:=AA->Int->Int->Int->Int->Option AA
abbrev Y2:=List AA->Int->Option AA
abbrev Y3:=AA->Option (List AA)
abbrev Y4:=Int->Int->AA->AA->Option AA
abbrev Rf:=Int->List AA->Option (List AA)
abbrev qV:=List AA->Option AA
abbrev qW:=List AA->Int->AA->Option (List AA)
abbrev qX:=List AA->Int->Option (List AA)
abbrev qY:=AA->Int->AA->Option (IL×Bool)
abbrev qZ:=AA->Int->AA->Option (Nl×Bool)
abbrev XI:=IL->Option Bool
abbrev qc:=IL->Option (AA×Bool)
abbrev qg:=Nl->Option (AA×Bool)
abbrev Rh:=Ap->CV->Af->Option (List Ah×Int×AA)
abbrev FX:=Int->Int->Option Int
abbrev AH2:=List Int->List Int->Int->Option (List Int)
abbrev Aq1:=List Int->Option (List Int)
abbrev qh:=AA->Int->Int->Option AA
abbrev AqM:=AA->Option F6
abbrev Avb:=F6->Int->Option (F6×AA)
abbrev Y5:=AA->Int->Int->Option (List Int)
abbrev BAh:=AA->Option (List (List Int))
abbrev Y6:=AA->Int->Option (AA×Bool)
abbrev AsG:=AA->Int->Option (List Int)
abbrev MR:=List Int->Option Bool
abbrev IAt:=List Int->Int->Option (AA×Bool)
abbrev Aq5:=List Int->List Int->Option (List Int)
abbrev Ri:=List (List Int)->List (List Int)->Option (List Int)
abbrev Y7:=AA->Option (Ky×Bool)
abbrev qj:=AA->Option (List (List Int)×Bool)
abbrev ql:=AA->AA->Option (List Int×Bool)
abbrev qm:=List Int->Int->Option AA
abbrev CAh:=AA->AA->Option (AA×AA×Bool)
abbrev qo:=Af->Bool->Bool->Option (Af×Bool)
abbrev qp:=Af->Option AA
abbrev qH:=BU->List Int->Option (BU×Bool)
abbrev dh:=BU->List Ef->Int->List Int->Option (BU×Bool)
abbrev XE:=BU->AA->Option (AA×Bool)
abbrev Y8:=AA->Option (List AA×Int)
abbrev Y9:=AA->Option (Ah×Bool)
abbrev XF:=AA->AA->Option (List Ah×Int)
abbrev qw:=Bg->Ah->Option Bg
abbrev NS:=Ap->Option Ap
abbrev DAh:=AA×Bool×List BQ×AA×Int×Unit×Int×AA×Int×Unit×Unit×Int->Option Ap
abbrev Yn:=Bg->Ah->List Int->Option Bg
abbrev EAh:=List CS->Int->Int->Option (List CS)
abbrev Yo:=Ap->CV->Int->Int->Option Ap
abbrev XH:=Bg->Int->DW->Option Bg
abbrev ZA:=Bo->Bo->Option Bool
abbrev qx:=Bo->List Ah->Option (Bo×Bool)
abbrev VI:=AA->BU->Option (Bo×List Ef×Bool)
abbrev Ot:=Ap->Option Bool
abbrev qy:=Ap->Option (Ap×Bool)
abbrev JAt:=DZ->Unit->Option (PO×DZ)
abbrev FAh:=Unit->Option (AA×AA×List DW)
abbrev GAh:=List Int->AA->Option (List Int)
abbrev KAt:=List Int->AA->Option (List Int×AA)
abbrev LAt:=Af->Option Int
abbrev HAh:=Int->Option (AA×Bool)
abbrev XC:=BU->Option BU
abbrev AAU:=Bo->Int->Option Int
abbrev MAt:=Bo->Af->Option (Bool×Bo)
abbrev zq:=Ap->Ah->Option (Bool×Ap)
abbrev XG:=CV->Option Bool
abbrev Yq:=DW->Option Bool
abbrev NAt:=List Af->List Af->Option Bool
abbrev OAt:=Kw->Option (Int×Kw)
abbrev IAh:=AA->Int->Option (AA×Int×Bool)
abbrev PAt:=Kw->Option (AA×Kw)
abbrev JAh:=Bg->Option Bg
abbrev eX:=Int->Option (List Ah×Int×AA)
abbrev eY:=List Int->Int->Option (List Int)
abbrev UBC:=List Int->Int->Int->Bool->Bool->Option (List Int×AA)
abbrev QAt:=List AA->Int->Nat->Nat->Option AA
abbrev RAt:=List AA->Int->Option Bool
abbrev KAh:=AA->Int->Option (List (List Int))
abbrev LAh:=List (List Int)->Option (List (List Int))
abbrev MAh:=AA->Int->Bool->Option (List (List Int))
abbrev SAt:=List Int->List Int->Nat->Option (List Int)
abbrev TAt:=AA->Int->Int->Option (List Int×Bool)
abbrev NAh:=Ap->Int->Int->Option Ap
abbrev OAh:=Bg->DW->Int->Option Bg
abbrev qI:=AA->AA->List DW->Option (Bg×Bool)
abbrev qK:=List D8->Int->Option (List Int)
abbrev PAh:=List Int->List Int->Option Bool
abbrev UAt:=AA->Option (IL×Bool)
abbrev QAh:=AA->Option (Nl×Bool)
abbrev RAh:=Nl->Option Int
def KD (a:Int):Bool:=decide (0<=a)
def Aqt (a b:Int):Bool:=decide (a<b)
def AwE (a b:Int):Bool:=(KD a) && (Aqt a b)
def IK:AA:=⟨#[]⟩
def VBC:BQ:=(⟨IK,IK,0⟩:BQ)
def KZ (a b:AA):Bool:=decide ((a.size+b.size)<=9223372036854775807)
def Av2 (a:Nat):Bool:=decide (a<=140737488355328)
def Ie (a:Nat) (b c:Int):Int:=((BitVec.toNat ((BitVec.ofInt a b) ^^^ (BitVec.ofInt a c)):Nat):Int)
def AwF (a:AA):List UInt8:=ByteArray.toList a
def Avd (a b:AA):Bool:=(AwF a) == (AwF b)
def BN (a:Int):Nat:=a.toNat
def Aqc (a:List BQ) (b:Int):BQ:=a.getD (BN b) VBC
def Ia (b:Option (List Ah×Int×AA)):Option (List Ah×Int×AA):=b.bind fun a=>some (a.1,a.2.1,a.2.2)
def Em:Nat:=IntKind.bits IntKind.u32
def TT (a:AA):Int:=(a.size:Int)
def Avv (a b:Int):Bool:=decide (a<=b)
def GK (a b:Int):Bool:=(KD a) && (Avv a b)
def Ad (a:Int):Int:=AV a
def ArO (a:Int):Int:=Ad (a+1)
def GZ (a:List Int) (b:Int):Int:=a.getD (BN b) 0
def AsC (a:List Int):Int:=(a.length:Int)
def Lh:Nat:=IntKind.bits IntKind.i64
def Arp (a:DZ):DZ:=⟨(),a.fI,a.AyA⟩
def Ap4 (b:Option Bool) (c d:Option (BU×Bool)):Option (BU×Bool):=b.bind fun a=>cond (!a) c d
def VAt:List Int:=[(1116352408:Int),(1899447441:Int),(3049323471:Int),(3921009573:Int),(961987163:Int),(1508970993:Int),(2453635748:Int),(2870763221:Int),(3624381080:Int),(310598401:Int),(607225278:Int),(1426881987:Int),(1925078388:Int),(2162078206:Int),(2614888103:Int),(3248222580:Int),(3835390401:Int),(4022224774:Int),(264347078:Int),(604807628:Int),(770255983:Int),(1249150122:Int),(1555081692:Int),(1996064986:Int),(2554220882:Int),(2821834349:Int),(2952996808:Int),(3210313671:Int),(3336571891:Int),(3584528711:Int),(113926993:Int),(338241895:Int),(666307205:Int),(773529912:Int),(1294757372:Int),(1396182291:Int),(1695183700:Int),(1986661051:Int),(2177026350:Int),(2456956037:Int),(2730485921:Int),(2820302411:Int),(3259730800:Int),(3345764771:Int),(3516065817:Int),(3600352804:Int),(4094571909:Int),(275423344:Int),(430227734:Int),(506948616:Int),(659060556:Int),(883997877:Int),(958139571:Int),(1322822218:Int),(1537002063:Int),(1747873779:Int),(1955562222:Int),(2024104815:Int),(2227730452:Int),(2361852424:Int),(2428436474:Int),(2756734187:Int),(3204031479:Int),(3329325298:Int)]
def AqE:Nat:=IntKind.bits IntKind.u64
def Ap1 (a:AA):AA:=(a:AA)
def KE (a:BU) (b:Int):BQ:=Aqc a.Ak b
def IZ:BU:=⟨[]⟩
def AwT:Bo:=⟨IK,0,[],0,IK,0⟩
def EP (a:List BQ) (b:Int):Int:=TT (Aqc a b).fText
def AwS (a:List Af) (b:Int) (c:Af):Af:=a.getD (BN b) (c:Af)
def DI:Int:=(0:Int)
def Avx (a:Nat) (b c:Int):Int:=((BitVec.toNat ((BitVec.ofInt a b) &&& (BitVec.ofInt a c)):Nat):Int)
def Ll (b a c:Int):Bool:=(GK b a) && (Avv a c)
def NW (c:eH) (d:DZ) (e:DW) (b:Bg) (f:DW):Option (DW×DZ×Bg):=(c (Arp d) 30).bind fun a=>cond a.1 (some (e,Arp a.2,b)) (some (f,Arp a.2,b))
def DX (a:Ap):Bo:=a.AU
def eu (a:Bg):Bo:=DX a.AX
def MS (a:Int):Int:=Ad ((a.tmod 56)*3)
def AwI (a:Int) (b:Nat):Bool:=AwE a (b:Int)
def ZB (c:AwL) (d:Ah) (e:Bool) (b:Option (Ah×Bool)) (f:AA) (g:Option (Ah×Bool)):Option (Ah×Bool):=(c d).bind fun a=>cond e b (cond (!a.2) b (cond (!(Avd a.1 f)) b g))
def WAt:AA:=Ap1 ⟨#[48,48,48,49,48,50,48,51,48,52,48,53,48,54,48,55,48,56,48,57,49,48,49,49,49,50,49,51,49,52,49,53,49,54,49,55,49,56,49,57,50,48,50,49,50,50,50,51,50,52,50,53,50,54,50,55,50,56,50,57,51,48,51,49,51,50,51,51,51,52,51,53,51,54,51,55,51,56,51,57,52,48,52,49,52,50,52,51,52,52,52,53,52,54,52,55,52,56,52,57,53,48,53,49,53,50,53,51,53,52,53,53,53,54,53,55,53,56,53,57,54,48,54,49,54,50,54,51,54,52,54,53,54,54,54,55,54,56,54,57,55,48,55,49,55,50,55,51,55,52,55,53,55,54,55,55,55,56,55,57,56,48,56,49,56,50,56,51,56,52,56,53,56,54,56,55,56,56,56,57,57,48,57,49,57,50,57,51,57,52,57,53,57,54,57,55,57,56,57,57]⟩
def RI (a b:Int):Bool:=(decide (a<=a)) && (decide (0<b))
def Aqq (a:Int):Nat:=BN (Ad a)
def VJ (a:Nat) (b:Int):Int:=((BitVec.toNat ((BitVec.ofInt a b) &&& (BitVec.ofInt a 1)):Nat):Int)
def Tf (a:List AA) (b:Int) (c:AA):AA:=a.getD (BN b) (Ap1 c)
def GL (a:List Int):Bool:=Nat.beq 25 a.length
def MV (a b:Nat):Int:=2 ^ (Min.min a b)
def Es (a:Ap):List EG:=a.BP
def EZ (a:Int) (b:List Int):Bool:=AwE (Ad a) (AsC b)
def AqS:Nat:=IntKind.bits IntKind.u8
def Jb (a:BU×Bool):Option (BU×Bool):=some a
def Awa (a:MH) (b:BU) (c d:BU×Bool):Option (BU×Bool):=Ap4 (a b) (Jb c) (Jb d)
def Avl (a:MH) (b:BU) (c d:BU×Bool):Option (BU×Bool):=Ap4 (a b) (Jb c) (Jb d)
def Fb (a b:Int):Int:=Ad (a+b)
def NY (a b:Int):Int:=Fb (Ad a) (Ad b)
def Ap2 (b:Option AA):Option AA:=b.bind fun a=>some a
def DC (a:Bo):List Af:=a.AZ
def Ig (a:Bo):Nat:=(DC a).length
def AsD:AA:=⟨#[98,111,111,107,43]⟩
def KF (a:BU) (b:Int):AA:=(KE a b).fText
def ArS (a:AA):Bool:=decide (a.size<=9223372036854775807)
def Arv (a:Int):List Int:=List.replicate (BN a) DI
def Rj (a:List BQ):Bool:=Av2 ((a.length+1)*40)
def ZC (a:List BQ) (b:Int):List BQ:=(a.drop 0).take ((BN b) - 0)
def XAt (a:Int) (b:List BQ) (c:BQ):Option BU:=cond (GK a (b.length:Int)) (cond (Av2 ((ZC b a).length*40)) (cond (Rj (ZC b a)) (cond (GK a (b.length:Int)) (cond (Av2 ((((ZC b a)++[c]).length+((b.drop (BN a)).take (b.length - (BN a))).length)*40)) (some ⟨((ZC b a)++[c])++((b.drop (BN a)).take (b.length - (BN a)))⟩) none) none) none) none) none
def En (a:List AA):Int:=(a.length:Int)
def Sj (a:BU):Nat:=a.Ak.length
def C9 (a:Bool) (b c:Option Bool):Option Bool:=cond a b c
def CAU (f:Af) (a:Int) (b c:Bool) (d e:Option Bool):Option Bool:=C9 (f.Aj == 1) (C9 (a == 1) (some b) (C9 c d e)) (C9 (a == 2) (some b) (C9 c d e))
def Td (a:Af):AA:=a.fValue
def rC (a:Af):Option Bool:=some (decide ((TT (Td a))<=100))
def JE (a:AA) (b c:Int):AA:=a.extract (BN b) (Aqq c)
def AwZ (a b:Int):Int:=Ad (a - b)
def MW:Int:=AwZ (168:Int) DI
def Dt (a:Int) (b:List Int):Bool:=AwE a (AsC b)
def ArU (a:Af):Bool:=a.GH
def Me (a:Af):Bool:=a.Gw
def Ars (a:Af) (b c:Bool):Af:=⟨a.fId,a.Aj,b,c,Me a,ArU a,Td a,a.fNext⟩
def Ap7 (a:List EG) (b:Int) (c:EG):EG:=a.getD (BN b) (c:EG)
def JF (a:List Int):Bool:=Nat.beq 8 a.length
def Nh (a:Int):Int:=Ad (a.tdiv 2)
def Avw (a:Nat):Bool:=Av2 (a*16)
def AqV (a:List AA):Bool:=Avw (a.length+1)
def Aqh (a:BU) (b:Int):Int:=(KE a b).J3
def AwC (a:BU) (b:Int) (c:Ef):BQ:=⟨(KE a b).fName,(KF a b)++c.fText,Aqh a b⟩
def SAh:CS:=(⟨0,0⟩:CS)
def TAh (a:Nat) (b:Int):Int:=((BitVec.toNat ((BitVec.ofInt a b) &&& (BitVec.ofInt a 255)):Nat):Int)
def Ar6 (a:Int):Int:=MV (BN a) Lh
def OG (a b:Int):Int:=Int.fdiv a b
def DAU (a:DZ):Int:=Ad ((Ad (a.AyA*6364136223846793005))+1442695040888963407)
def YAt (a:DZ):Int:=TAh Lh (Ad (Ie Lh (OG (DAU a) (Ar6 (33:Int))) (OG (DAU a) (Ar6 (45:Int)))))
def Arm (a:Bool) (b:Option AA):Option AA:=cond a b none
def U4 (a:BQ) (b:AA) (c:Nat):BQ:=(⟨a.fName,b.extract 0 c,a.J3⟩:BQ)
def UAh (a:Int):Bool:=((KD a) && (decide (a<=a))) && (decide (a<=9223372036854775807))
def La (b:Option Bg):Option Bg:=b.bind fun a=>some a
def ArB:AA:=⟨#[98,111,111,107]⟩
def Qk (a:AA) (b:Int):Int:=Ad (bt a b)
def fA (a:F6×AA) (b:Int):Int:=NY (bt a.2 (MS b)) (256*((Qk a.2 (ArO (MS b))).tmod 16))
def Fe (a:Ap):Nat:=(Es a).length
def ZE (a:Int):Int:=(Ad a).tmod 3329
def fB (a b:Int):Int:=ZE (a*b)
def Ld (a:List Int) (b:Int):Int:=GZ a (Ad b)
def EAU (a:List Int) (b c d:Int):List Int:=a.set (Aqq (b+c)) (ZE ((AwZ (GZ a b) (fB d (Ld a (b+c))))+3329))
def ZAt (b c a:Int×Kw) (d:AA×Kw) (e:Int×Kw):Af:=⟨b.1,c.1,(Ad (VJ Lh a.1)) != 0,(Ad ((BitVec.toNat ((BitVec.ofInt Lh a.1) &&& (BitVec.ofInt Lh 2)):Nat):Int)) != 0,(Ad ((BitVec.toNat ((BitVec.ofInt Lh a.1) &&& (BitVec.ofInt Lh 4)):Nat):Int)) != 0,(Ad ((BitVec.toNat ((BitVec.ofInt Lh a.1) &&& (BitVec.ofInt Lh 8)):Nat):Int)) != 0,d.1,e.1⟩
def Sl (b c d:Option Bool):Option Bool:=b.bind fun a=>C9 a c d
def JD (a:Int):Bool:=decide (a>=0)
def AqO (a:Bool) (b:Option (AA×Bool)):Option (AA×Bool):=cond a b none
def ArK (a:Ap):List BQ:=a.Bc.Ak
def NV (a:List Int):Bool:=Av2 ((a.length+1)*8)
def NZ (b:Int) (c:Bool) (a d:Option (BU×Bool)) (e:Bool) (f:Option (BU×Bool)):Option (BU×Bool):=cond (b == 3) (cond c a d) (cond e f a)
def fC (a:AA) (b:Int):Int:=NY (bt a (MS b)) (256*((Qk a (ArO (MS b))).tmod 16))
def Aqk (a:Ap):Int:=(DX a).BM
def AqI (a:Ap):Int:=ArO (Aqk a)
def Qa (a:Ah):Af:=a.Ag
def OH (a:Bo):Int:=ArO a.fCount
def WW (a:Bo) (b:List Af) (c:Ah) (d:AA) (e:Bo):Bo:=⟨a.Bv,a.DU,b,(Qa c).fId,d,OH e⟩
def Na (a:List Int):Bool:=Av2 ((a.length+1)*1)
def rD (a b:BQ):Bool:=Op.bytesLess (AwF a.fName) (AwF b.fName)
def AwJ (a:BU) (b:Int):Int:=TT (KF a b)
def WX (a:BU) (b:Int):BQ:=⟨(KE a b).fName,KF a b,AwJ a b⟩
def AwX (a:AA) (b:Int):AA:=a.extract (BN b) a.size
def Aq4:Int:=(1:Int)
def ArN (a:Bg):List AA:=a.EN
def ArX (a:CV):Int:=a.EJ
def FAU (a:CV×DZ) (b:Bg) (c:Int×DZ):CV:=⟨a.1.Au,ArX a.1,a.1.Ag,a.1.Aj,Tf (ArN b) c.1 IK,a.1.CY,a.1.CX⟩
def WY (a:Bo) (b:List Af) (c:AA) (d:Bo):Bo:=⟨a.Bv,a.DU,b,a.BM,c,OH d⟩
def GAU (a:Int):Int:=((BitVec.toNat ((BitVec.ofInt Lh a) ^^^ (BitVec.ofInt Lh 1)):Nat):Int)
def AsI:AA:=Ap1 ⟨#[116]⟩
def AsF (a:List Int):Option AA:=some (ofBytes a)
def AwU (a:Int):Int:=ArO (Ad (2*a))
def rE (b:Int) (c:AA) (d a:Int):Int:=Fb b (Ad (((Qk c (Fb d a)).tmod 128)*(MV (Aqq (7*a)) Lh)))
def Ar2 (a:AA×Bool):Option (AA×Bool):=some a
def Oq (a:Ef):Bool:=Avd a.I8 a.fName
def Rk (a b:List Int):Bool:=Nat.beq a.length b.length
def WZ (a:Ef):BQ:=⟨a.fName,(Ap1 IK)++a.fText,0⟩
def Av8 (a:Int):Bool:=decide (a<0)
def ZF:AA:=⟨#[112,111,108,105,99,121]⟩
def Avi (a:Int):Bool:=decide (a > 0)
def ArH (a:Bg):Int:=(eu a).fCount
def Eb (a:Int):Int:=wu64 a
def VAh (a:Int):Int:=Eb ((BitVec.toNat ((BitVec.ofInt AqE (Eb a)) &&& (BitVec.ofInt AqE 31)):Nat):Int)
def WAh (a:Int):Int:=Eb ((BitVec.toNat ((BitVec.ofInt AqE (Eb a)) &&& (BitVec.ofInt AqE 63)):Nat):Int)
def Avu (a:List Int):Bool:=Nat.beq 64 a.length
def OI (a:Int):Bool:=(a.tmod 2) == 1
def ZG (a:Nat) (b c:Int):Int:=((BitVec.toNat ((BitVec.ofInt a b) ||| (BitVec.ofInt a c)):Nat):Int)
def Avj:IL:=⟨0,[],[]⟩
def AqZ (a:F6):Int:=Ad (168 - a.ER)
def Ar7 (a:Ap):Int:=a.CW
def AQ1:AA:=Ap1 ⟨#[48,49,50,51,52,53,54,55,56,57,97,98,99,100,101,102,103,104,105,106,107,108,109,110,111,112,113,114,115,116,117,118,119,120,121,122]⟩
def HAU (a:F6×AA) (b:Int):Int:=NY ((Qk a.2 (ArO (MS b))).tdiv 16) (16*(Qk a.2 (Ad ((MS b)+2))))
def Yr (a:List D8) (b:Int):D8:=a.getD (BN b) (⟨0,0,0⟩:D8)
def ZH (a:AA):AA:=a.extract 0 (Aqq ((TT a) - 16))
def IAU (a:AA) (b:Int):Int:=NY ((Qk a (ArO (MS b))).tdiv 16) (16*(Qk a (Ad ((MS b)+2))))
def AwY (a:AA):Bool:=(TT a) == 32
def JAU (a:Af):Option Bool:=C9 (a.Aj == 3) (rC a) (some (AwY (Td a)))
def Aql (a:Bo):AA:=a.Dh
def Wh (a:Ef):BQ:=⟨a.fName,IK,TT (Ap1 IK)⟩
def VK (a b:Int):Int:=OG a (MV (BN b) Em)
def He (a:Ap):List CS:=a.BD
def MI (a:Ap):Nat:=(He a).length
def Gm (a:Int) (b:Nat):Bool:=Aqt a (b:Int)
def XAh (a:Int):Int:=Ad ((BitVec.toNat ((BitVec.ofInt Lh (Ad a)) ^^^ (BitVec.ofInt Lh 113)):Nat):Int)
def BAu (a:DW×DZ×Bg):DW:=⟨⟨a.1.BA.Au,ArX a.1.BA,a.1.BA.Ag,a.1.BA.Aj,⟨#[108,111,110,103]⟩,a.1.BA.CY,a.1.BA.CX⟩,a.1.Nr,a.1.Lc,a.1.JY⟩
def KAU (b:AA) (a:Int):Int:=Ad (OG (bt b (Nh a)) (MV (Aqq (4*(a.tmod 2))) AqS))
def WT (a:List CS) (b:Int):List CS:=(a.drop 0).take ((BN b) - 0)
def P5 (a:AA) (b:Int):AA:=a.extract 0 (BN b)
def ZI:List Int:=List.replicate 25 DI
def OJ (a:Nat) (b c:Int):Int:=w32 (Ie a b c)
def fD (a b:Int):Int:=OJ Em (w32 a) (w32 b)
def Arr (a:List BQ) (b:Int):Int:=(Aqc a b).J3
def Pq (a:List CS) (b:Int):CS:=a.getD (BN b) SAh
def Kr (a:Bg):Int:=(eu a).DU
def Av9 (a:Bool) (b c:Bo×Bool):Option (Bo×Bool):=cond (!a) (some b) (some c)
def Qq (a:Ef):Bool:=a.Aj == 1
def ArC (a:Ef):Bool:=a.Aj == 2
def Tq (a:Ef):Bool:=a.Aj == 4
def Aqa (a:Ap):Int:=(DX a).DU
def LC:Int:=(4:Int)
def AwO:Option Int:=some (-Aq4)
def TR (a:Int×Int×Bool):Int:=(Ad (a.2.1+4))+a.1
def Aq6 (a:Int):Bool:=a == 0
def Aqd (a b:Int):Int:=a+(Ad (5*b))
def fE:AA:=⟨#[102,117,108,108]⟩
def Ar1 (a:Int):Bool:=decide (a<256)
def Lm (a:Bg):Int:=(eu a).BM
def CAu (a:List Int):List Int:=a.set (Aqq ((AsC a) - 1)) (w8 ((BitVec.toNat ((BitVec.ofInt AqS (Ld a ((AsC a) - 1))) ^^^ (BitVec.ofInt AqS 128)):Nat):Int))
def Lr (a:Int):Int:=Ad (a - 1)
def AqG (a:Int):Int:=a.tmod 5
def Qp (a:Bg):List CS:=He a.AX
def AwQ (a:Bg):AA:=(eu a).Bv
def Wi (a:List (List Int)):Bool:=Av2 ((a.length+1)*24)
def Pm (a:AA):List Int:=bytesOf a
def rF (a:List Int) (b:AA):Bool:=Av2 ((a.length+(Pm b).length)*1)
def Wx (a:Ef):Bool:=KZ (Ap1 IK) a.fText
def Aq7 (a:Bg):AA:=a.AX.BO
def rG:AA:=Ap1 ⟨#[111,117,116]⟩
def dw (a:List CS) (b:Nat) (c:Int):List CS:=(a.drop b).take (a.length - (BN c))
def DAu:List Int:=[1779033703,3144134277,1013904242,2773480762,1359893119,2600822924,528734635,1541459225]
def Wy:List Int:=Arv (256:Int)
def WU (b:Option Bool):Option Bool:=b.bind fun a=>some a
def ArM (a:Bg):Int:=Ar7 a.AX
def Ku (a:Bg):AA:=Aql (eu a)
def LAU (a:AA):AA:=a.extract (Aqq ((TT a) - 32)) a.size
def MAU (a:AA):Bool:=(Avv DI Aq4) && (decide (1<=(TT a)))
def Nk (a:Bo) (b:AA×Bool):Bool:=KZ (Aql a) b.1
def NAU:AA:=⟨#[119,114,111,110,103]⟩
def ArL (a:Bool) (b:Option Ap):Option Ap:=cond a b none
def AqD (a:Af):Bool:=a.CY
def W9 (c:Ef) (a:BU) (b:Int):BQ:=⟨c.I8,KF a b,Aqh a b⟩
def Qi (a:List Ef):Int:=(a.length:Int)
def Um (a:Int) (b:BU):Bool:=AwI a (Sj b)
def AwM (a:Bool) (b:Option (List Int)):Option (List Int):=cond a b none
def fF:AA:=Ap1 ⟨#[109]⟩
def U0 (a:AA) (b c:Int):AA:=a.extract (Aqq b) (Aqq c)
def OAU (a:Int):Bool:=(Avv DI (2:Int)) && (decide (2<a))
def Av0 (a:Bg):Bool:=a.AX.CZ
def OL (a:Int) (b:List AA):Bool:=AwI a b.length
def Qm (a:Ap):Int:=(DX a).fCount
def Yp (a:List Ah) (b:Int) (c:AA) (d:Af):Ah:=a.getD (BN b) (⟨0,c,0,d⟩:Ah)
def EAu (i:Bl) (b:AA) (f:U6) (g:AA) (h:CG):Option AA:=(i (Ad (64 - (TT b)))).bind fun a=>Arm (KZ b a) ((f (b++a) 92).bind fun c=>(f (b++a) 54).bind fun d=>Arm (KZ d g) ((h (d++g)).bind fun e=>Arm (KZ c e) (Ap2 (h (c++e)))))
def PAU (a:List Int):Bool:=(Avv DI LC) && (decide (4<(AsC a)))
def QAU (a:List AA):Option AA:=Arm (RI DI (En a)) (some (Tf a DI IK))
def Gx (a b c:AA):Bool:=KZ (a++b) c
def FAu (a:AA) (b:Int):List Ef:=[(⟨4,AsD,IK,IK⟩:Ef)]++[(⟨1,AsD,P5 a b,IK⟩:Ef),(⟨2,AsD,IK,IK⟩:Ef),(⟨3,AsD,IK,ArB⟩:Ef)]
def Aqn (a:Int):Bool:=decide (a<2)
def fG:AA:=Ap1 ⟨#[32]⟩
def dn (a:List Ah):Bool:=Av2 ((a.length+1)*80)
def Avm (a:Bg):List BQ:=ArK a.AX
def YAh (a:Int):Int:=w32 ((w32 ((2147483648:Int).tdiv a))*2)
def ML (a:Bg):List Af:=DC (eu a)
def Rl:Option AA:=some IK
def Ls (a:Int) (b:AA):Int:=AwZ a (TT b)
def Ej (a:List Int):Option (List Int):=some a
def Aqp (a:Bg):List EG:=Es a.AX
def VL (a:Int):Bool:=a == a
def FK (a:Af):Bool:=a.CX
def XA (a:Ef):BQ:=⟨a.I8,IK,0⟩
def RAU (a:AA):Bool:=GK (Ad ((TT a) - 16)) (TT a)
def Oo (a:Int):Nat:=BN (ArO a)
def AwG (a:List Int):Bool:=RI DI (AsC a)
def Lu (a:Bo):Int:=(Ig a:Int)
def TK:Int:=(49:Int)
def fH (a:Ah):Bool:=Avd (Td (Qa a)) IK
def ZAh:List AA:=[⟨#[97]⟩,⟨#[98]⟩,⟨#[99]⟩]
def fJ (a:Int):Int:=Ad (a.tdiv 16)
def Qs (a b:Int):Bool:=decide (a > b)
def WV (a:Int):Bool:=decide (a<10)
def RS (a:AA):Int:=Ad (bt a 0)
def Awf (a:Int):Int:=a.tdiv 8
def rH:AA:=Ap1 ⟨#[108]⟩
def ZJ (a:Int):Int:=Ad (a.tdiv 4)
def fK (a b:Int):Int:=AqG (NY (2*a) (3*b))
def GAu (a:AA):Bool:=((Avv DI (768:Int)) && (Avv (768:Int) (1568:Int))) && (decide (1568<=(TT a)))
def SAU (a:Int):Bool:=(Avv DI Aq4) && (decide (1<a))
def AqA (a:Bool) (b:Option (BU×Bool)):Option (BU×Bool):=cond a b none
def Arb (a:List Ah):Int:=(a.length:Int)
def VN (a b:Int):Bool:=decide (a>=b)
def ZK (a:Int):Bool:=decide (a<3329)
def HAu (a b:Int):Int:=Ad ((AwZ (AwZ (Fb (a.tmod 2) (b.tmod 2)) ((ZJ a).tmod 2)) ((Ad (Awf a)).tmod 2))+3329)
abbrev mk {R:Type} (c:R) {x:R} (_h:x=c:=by (first|delta AwE VBC IK KZ Av2 Ie Avd Aqc Ia Em TT GK ArO GZ AsC Lh Arp Ap4 Ad VAt AqE Ap1 KE IZ AwT EP AwS DI Aqt Avx Ll NW eu MS AwI ZB WAt RI Aqq VJ Tf GL MV Es EZ AqS Awa Avl NY Ap2 Ig Avv AsD DC KF ArS Arv XAt En Sj CAU rC JE MW Dt Ars Ap7 JF Nh AqV AwC SAh YAt Arm DAU U4 UAh La ArB fA Fe Qk EAU BN ZAt Sl JD AqO ArK NV NZ fC AqI WW Na rD WX AwX Ld Aq4 FAU WY GAU AsI AsF AwU rE Ar2 Oq Rk WZ AwZ Av8 ZF Avi KD ArH VAh WAh Avu OI Qa ZG Avj AqZ Rj Ar7 AQ1 HAU Yr ZH IAU JAU Aql Aqh Wh VK MI Gm XAh BAu KAU ArN WT P5 ZI Eb fD Arr Pq Kr Av9 Qq ArC Tq Aqa LC AwO TR Aq6 Aqd fE DX Ar1 Lm CAu Lr AqG Qp ZC AwQ Wi OH rF Jb Wx Aq7 rG dw AwJ DAu Wy WU ArM TAh Td Ku LAU Ar6 ArX MAU Nk NAU ArL AwF AqD W9 Qi Um AwM fF U0 OAU Av0 Fb OL Qm Yp EAu PAU Pm QAU Gx FAu Aqn fG dn Avm YAh ML OJ Rl Aqk Ls Ej ArU Avw Aqp OG VL FK fB XA RAU Oo AwG Lu TK fH ZAh fJ Me Qs WV RS Awf rH ZJ fK GAu SAU AqA He Arb VN C9 AwY ZK HAu ZE|skip);exact rfl):R:=x
def WBC:qL:=fun a=>mk (some (decide ((AsC KI) > 1048576)))
def AGY:qL:=WBC
def PBS:Awe:=BI u1 AGY wY E8 [] Tryz.func6 WBC
inductive TAU where
 |c0 (a b:Int)
def QBS:TAU->Avy
 |.c0 a b=>(tdo Tryz.f27 464,[(0,[.one (.J4)]),vi 3 a,vi 4 b],[])
def IAu (k:Aw7 TAU DZ):XAs:=fun a=>mk (k (.c0 (Ad (27401+(AsC KI))) 0))
def BAi (k:Aw7 TAU DZ):Aw7 TAU DZ
 |.c0 b a=>mk (cond (Aqt a (AsC KI)) (cond (a<4000) (cond (Dt a KI) (cond (Nat.blt (BN a) KI.length) (k (.c0 (Ad ((BitVec.toNat ((BitVec.ofInt Lh (Ad ((NY (b*131) (GZ KI a))+7))) &&& (BitVec.ofInt Lh 1073741823)):Nat):Int)) (ArO a))) none) none) (some ⟨(),0,b⟩)) (some ⟨(),0,b⟩))
def oD:AzH TAU DZ
 |0,_=>none
 |m+1,s=>BAi (oD m) s
def CAi:XAs:=IAu (oD AY)
def RBS:Awe:=fy u1 CAi wY cv2 [] Tryz.func27 QBS BAi IAu oD
def JAu:UAT:=fun a=>mk (cond (Aqt a.fI (AsC KI)) (cond (AwE a.fI (AsC KI)) (cond (Nat.blt (BN a.fI) KI.length) (some (Ad (TAh Lh (NY (YAt a) (GZ KI a.fI))),⟨(),ArO a.fI,DAU a⟩)) none) none) (some (Ad (YAt a),⟨(),a.fI,DAU a⟩)))
def oH:UAT:=JAu
def XBC:Awe:=BI u1 oH cv3 cv4 [] Tryz.func103 JAu [0]
def KAu (b:UAT):Uz:=fun c a=>mk (cond (a<=0) (some (0,Arp c)) (cond (a<=256) ((b (Arp c)).bind fun d=>cond (!(Aq6 a)) (some (d.1.tmod a,Arp d.2)) none) ((b (Arp c)).bind fun e=>(b (Arp e.2)).bind fun f=>(b (Arp f.2)).bind fun g=>(b (Arp g.2)).bind fun h=>cond (!(Aq6 a)) (some ((Fb (NY ((Ad (e.1*16777216))+(Ad (f.1*65536))) (g.1*256)) h.1).tmod a,Arp h.2)) none)))
def PD:Uz:=KAu oH
def fM:Awe:=BI u2 PD cv5 cv4 [XBC] Tryz.func58 KAu [0]
inductive UAU where
 |c0 (a b d:Int) (e:(List Int))
def SBS:UAU->Avy
 |.c0 a b d e=>(tdo Tryz.f57 464,[vi 0 a,(1,[.one (.int .u8 b)]),vo 5 368,vi 6 d],[(368,.sl 5 e)])
def LAu (k:Aw7 UAU AA):Yt:=fun a b=>mk (cond ((UAh a) && (Av2 ((BN a)*1))) (k (.c0 a b 0 (Arv a))) none)
def EAi (k:Aw7 UAU AA):Aw7 UAU AA
 |.c0 c d a b=>mk (cond (Aqt a c) (cond (Dt a b) (k (.c0 c d (ArO a) (b.set (BN a) d))) none) (AsF b))
def oI:AzH UAU AA
 |0,_=>none
 |m+1,s=>EAi (oI m) s
def dB:Yt:=LAu (oI AY)
def YBC:Awe:=fy u2 dB cv6 Cc [] Tryz.func57 SBS EAi LAu oI
def ZBC:Aqy:=mk (Ej DAu)
def AYZ:Aqy:=ZBC
def TBS:Awe:=BI u0 AYZ Yc cv9 [] Tryz.func181 ZBC
inductive VAU where
 |c0 (a:(List Int)) (b:Int) (d:(List Int))
def UBS:VAU->Avy
 |.c0 a b d=>(tdo Tryz.f180 464,[vr 0 108 a,vo 3 240,vi 4 b],[(240,.sl 5 d)])
def BBD (k:Aw7 VAU AA):Ic:=fun a=>k (.c0 a 0 [])
def FAi (k:Aw7 VAU AA):Aw7 VAU AA
 |.c0 b a c=>mk (cond (Aqt a (AsC b)) (cond (Dt a b) (cond (Av2 ((c.length+4)*1)) (k (.c0 b (ArO a) (c++[w8 (w32 ((GZ b a).tdiv 16777216)),w8 ((w32 ((GZ b a).tdiv 65536)).tmod 256),w8 ((w32 ((GZ b a).tdiv 256)).tmod 256),w8 ((GZ b a).tmod 256)]))) none) none) (AsF c))
def oK:AzH VAU AA
 |0,_=>none
 |m+1,s=>FAi (oK m) s
def dH:Ic:=BBD (oK AY)
def MAu:Awe:=fy u1 dH AfP Cc [] Tryz.func180 UBS FAi BBD oK
def CBD (c:Aqy) (d:Ic):YAs:=mk (c.bind fun a=>(d a).bind fun b=>some ⟨b,IK,0⟩)
def NAu:YAs:=CBD AYZ dH
def VBS:Awe:=BI u0 NAu Yc AEj [TBS,MAu] Tryz.func126 CBD
def DBD:AqW:=fun a b c=>mk (C9 (VN a b) (some (Avv a c)) (some false))
def Arz:AqW:=DBD
def JV:Awe:=BI u3 Arz AVC E8 [] Tryz.func80 DBD
def OAu (b:AqW):qM:=fun a=>mk (C9 (AwY a.F7) (C9 ((TT a.Np)<64) (Sl (b a.fCount 0 1000000000) (some ((a.fCount.tmod 64) == (TT a.Np))) (some false)) (some false)) (some false))
def WH:qM:=OAu Arz
def EBD:Awe:=BI u1 WH AEj E8 [JV] Tryz.func176 OAu
def PAu:TAg:=fun b a=>mk (cond (AwE a (TT b)) (cond (AwE (ArO a) (TT b)) (cond (AwE (Ad (a+2)) (TT b)) (cond (AwE (Ad (a+3)) (TT b)) (some (w32 ((w32 ((w32 ((w32 ((w32 (bt b a))*16777216))+(w32 ((w32 (bt b (ArO a)))*65536))))+(w32 ((w32 (bt b (Ad (a+2))))*256))))+(w32 (bt b (Ad (a+3))))))) none) none) none) none)
def zD:TAg:=PAu
def WBS:Awe:=BI u2 zD Q9 UG [] Tryz.func238 PAu
inductive XAU where
 |c0 (a:AA) (b:Int) (d:(List Int))
def XBS:XAU->Avy
 |.c0 a b d=>(tdo Tryz.f177 464,[vs 0 a,vo 3 240,vi 4 b],[(240,.sl 108 d)])
def FBD (b:TAg) (k:Aw7 XAU (List Int)):Hw:=fun a=>k (.c0 a 0 [])
def HAi (a:TAg) (k:Aw7 XAU (List Int)):Aw7 XAU (List Int)
 |.c0 c b d=>mk (cond (Avv (Ad (b+4)) (TT c)) ((a c b).bind fun e=>cond (Av2 ((d.length+1)*4)) (k (.c0 c (Ad (b+4)) (d++[e]))) none) (Ej d))
def oL:AzH XAU (List Int)
 |0,_=>none
 |m+1,s=>HAi zD (oL m) s
def WI:Hw:=FBD zD (oL AY)
def QAu:Awe:=fy u1 WI Cc cv9 [WBS] Tryz.func177 XBS HAi FBD oL
def GBD:Aqy:=mk (Ej [1116352408,1899447441,3049323471,3921009573,961987163,1508970993,2453635748,2870763221,3624381080,310598401,607225278,1426881987,1925078388,2162078206,2614888103,3248222580,3835390401,4022224774,264347078,604807628,770255983,1249150122,1555081692,1996064986,2554220882,2821834349,2952996808,3210313671,3336571891,3584528711,113926993,338241895,666307205,773529912,1294757372,1396182291,1695183700,1986661051,2177026350,2456956037,2730485921,2820302411,3259730800,3345764771,3516065817,3600352804,4094571909,275423344,430227734,506948616,659060556,883997877,958139571,1322822218,1537002063,1747873779,1955562222,2024104815,2227730452,2361852424,2428436474,2756734187,3204031479,3329325298])
def oO:Aqy:=GBD
def HBD:Awe:=BI u0 oO Yc cv9 [] Tryz.func178 GBD
def RAu:ZAs:=fun b a c=>mk (cond (!(Aq6 a)) (cond (!(Aq6 a)) (some (w32 ((w32 (b.tdiv a))+(w32 ((b.tmod a)*c))))) none) none)
def IAi:ZAs:=RAu
def YBS:Awe:=BI u3 IAi AfQ UG [] Tryz.func274 RAu
def oM (e:ZAs):UAg:=fun b c f a i=>mk (cond (!(Aq6 c)) ((e b c (YAh c)).bind fun d=>cond (!(Aq6 f)) ((e b f (YAh f)).bind fun g=>cond (!(Aq6 a)) (cond (!i) (cond (!(Aq6 a)) ((e b a (YAh a)).bind fun h=>some (OJ Em (OJ Em d g) h)) none) (some (fD (Ie Em d g) (b.tdiv a)))) none) none) none)
def Arf:UAg:=oM IAi
def ZBS:Awe:=BI u5 Arf AfR UG [YBS] Tryz.func239 oM
inductive YAU where
 |c0 (a b:(List Int)) (g:Int) (d:(List Int))
 |c1 (a b:(List Int)) (f:Int) (d e:(List Int))
 |c2 (a b:(List Int)) (f h:Int) (i j:Int) (d e:(List Int))
 |c3 (a:(List Int)) (l:Int) (e n:(List Int))
def Aki:YAU->Avy
 |.c0 a b g d=>(tdo Tryz.f179 464,[vr 0 108 a,vr 1 108 b,vo 7 496,vi 8 g],[(496,.sl 108 d)])
 |.c1 a b f d e=>(tdo Tryz.f179 2000,[vr 0 108 a,vr 1 108 b,vo 7 496,vo 9 624,vi 10 f],[(496,.sl 108 d),(624,.sl 108 e)])
 |.c2 a b f h i j d e=>(tdo Tryz.f179 8202192,[vr 0 108 a,vr 1 108 b,vo 7 496,vo 9 624,vi 10 f,(13,[.one (.int .u32 h)]),(15,[.one (.int .u32 i)]),vi 16 j],[(496,.sl 108 d),(624,.sl 108 e)])
 |.c3 a l e n=>(tdo Tryz.f179 8144,[vr 0 108 a,vo 9 624,vo 17 1136,vi 18 l],[(624,.sl 108 e),(1136,.sl 108 n)])
def SAu (b:Hw) (f:UAg) (k:Aw7 YAU (List Int)):qN:=fun d e c=>(b c).bind fun a=>k (.c0 d e 16 a)
def dI (a:Hw) (b:UAg) (k:Aw7 YAU (List Int)):Aw7 YAU (List Int)
 |.c0 e h d c=>mk (cond (d<64) (cond (EZ (d - 2) c) ((b (Ld c (d - 2)) 131072 524288 1024 true).bind fun f=>cond (EZ (d - 7) c) (cond (EZ (d - 15) c) ((b (Ld c (d - 15)) 128 262144 8 true).bind fun g=>cond (EZ (d - 16) c) (cond (Av2 ((c.length+1)*4)) (k (.c0 e h (ArO d) (c++[w32 ((w32 ((w32 (f+(Ld c (d - 7))))+g))+(Ld c (d - 16)))]))) none) none) none) none) none) (cond (Av2 ((0+e.length)*4)) (k (.c1 e h 0 c e)) none))
 |.c1 i e d f c=>mk (cond (d<64) (cond (PAU c) (cond ((Avv DI (5:Int)) && (decide (5<(AsC c)))) (cond ((Avv DI (6:Int)) && (decide (6<(AsC c)))) (cond ((Avv DI (7:Int)) && (decide (7<(AsC c)))) ((b (GZ c LC) 64 2048 33554432 false).bind fun g=>cond (Dt d e) (cond (Dt d f) (cond (AwG c) (cond (SAU (AsC c)) (cond (AwG c) (cond (OAU (AsC c)) (cond (SAU (AsC c)) (cond (OAU (AsC c)) (cond (AwG c) ((b (GZ c DI) 4 8192 4194304 false).bind fun h=>k (.c2 i e d (w32 ((w32 ((w32 ((w32 ((GZ c (7:Int))+g))+(fD (Avx Em (GZ c LC) (GZ c (5:Int))) (Avx Em (w32 (4294967295 - (GZ c LC))) (GZ c (6:Int))))))+(GZ e d)))+(GZ f d))) (w32 (h+(fD (Ie Em (w32 (Avx Em (GZ c DI) (GZ c Aq4))) (w32 (Avx Em (GZ c DI) (GZ c (2:Int))))) (Avx Em (GZ c Aq4) (GZ c (2:Int)))))) 7 f c)) none) none) none) none) none) none) none) none) none) none) none) none) none) (k (.c3 i 0 c [])))
 |.c2 f g h e i d j c=>mk (cond (Avi d) (cond (EZ (d - 1) c) (cond (Dt d c) (k (.c2 f g h e i (Lr d) j (c.set (BN d) (Ld c (d - 1))))) none) none) (cond (PAU c) (cond (PAU c) (cond (AwG (c.set (BN LC) (w32 ((GZ c LC)+e)))) (k (.c1 f g (ArO h) j ((c.set (BN LC) (w32 ((GZ c LC)+e))).set (BN DI) (w32 (e+i))))) none) none) none))
 |.c3 d c e f=>mk (cond (c<8) (cond (Dt c d) (cond (Dt c e) (cond (Av2 ((f.length+1)*4)) (k (.c3 d (ArO c) e (f++[w32 ((GZ d c)+(GZ e c))]))) none) none) none) (Ej f))
def Pn:AzH YAU (List Int)
 |0,_=>none
 |m+1,s=>dI WI Arf (Pn m) s
def dJ:qN:=SAu WI Arf (Pn AY)
def IBD:Awe:=fy u3 dJ AfS cv9 [QAu,ZBS] Tryz.func179 Aki dI SAu Pn
inductive ZAU where
 |c0 (a b:AA) (d:Int) (e f:IW) (g h:(List Int))
def BBT:ZAU->Avy
 |.c0 d e f a b g h=>(tdo Tryz.f125 4064,[vs 1 d,vp 2 128,vp 4 256,vo 5 368,vo 6 432,vs 7 e,vi 8 f],[(128,.var [.str a.F7,.str a.Np,li a.fCount]),(256,.var [.str b.F7,.str b.Np,li b.fCount]),(368,.sl 108 g),(432,.sl 108 h)])
def TAu (f:qM) (g:Hw) (h:Aqy) (i:qN) (j:Ic) (k:Aw7 ZAU IW):AQd:=fun a b=>mk ((f a).bind fun c=>cond (!c) (some a) (cond ((Fb a.fCount (TT b)) > 1000000000) (some a) ((g a.F7).bind fun d=>h.bind fun e=>cond (KZ a.Np b) (k (.c0 b (a.Np++b) 0 a ⟨IK,IK,0⟩ d e)) none)))
def JAi (a:qM) (b:Hw) (c:Aqy) (d:qN) (e:Ic) (k:Aw7 ZAU IW):Aw7 ZAU IW
 |.c0 l g f m o i j=>mk (cond (Avv (Ad (f+64)) (TT g)) (cond (Ll f (Ad (f+64)) (TT g)) ((d i j (JE g f (f+64))).bind fun h=>k (.c0 l g (Ad (f+64)) m o h j)) none) ((e i).bind fun n=>cond (GK f (TT g)) (some ⟨n,AwX g f,Fb m.fCount (TT l)⟩) none))
def oP:AzH ZAU IW
 |0,_=>none
 |m+1,s=>JAi WH WI oO dJ dH (oP m) s
def KAi:AQd:=TAu WH WI oO dJ dH (oP AY)
def CBT:Awe:=fy u2 KAi AfT AEj [EBD,QAu,HBD,IBD,MAu] Tryz.func125 BBT JAi TAu oP
inductive AAg where
 |c0 (b:IW) (a:(List Int))
 |c1 (d e:Int) (b:IW) (a:(List Int))
 |c2 (d e:Int) (f g:Int) (b:IW) (a:(List Int))
 |c3 (h:Int) (a i j:(List Int))
def DBT:AAg->Avy
 |.c0 a b=>(tdo Tryz.f124 992,[vp 1 64,vo 3 240],[(64,.var [.str a.F7,.str a.Np,li a.fCount]),(240,.sl 5 b)])
 |.c1 d e a b=>(tdo Tryz.f124 8144,[vp 1 64,vo 3 240,vi 4 d,vi 5 e],[(64,.var [.str a.F7,.str a.Np,li a.fCount]),(240,.sl 5 b)])
 |.c2 d e f g a b=>(tdo Tryz.f124 2085456,[vp 1 64,vo 3 240,vi 4 d,vi 5 e,vi 6 f,vi 7 g],[(64,.var [.str a.F7,.str a.Np,li a.fCount]),(240,.sl 5 b)])
 |.c3 h b i j=>(tdo Tryz.f124 65488,[vo 3 240,vo 8 560,vo 9 624,vi 10 h],[(240,.sl 5 b),(560,.sl 108 i),(624,.sl 108 j)])
def UAu (c:qM) (d:Hw) (e:Aqy) (f:qN) (g:Ic) (k:Aw7 AAg AA):BAt:=fun a=>mk ((c a).bind fun b=>cond (!b) Rl (cond (ArS a.Np) (cond (Na (Pm a.Np)) (k (.c0 a ((Pm a.Np)++[(128:Int)]))) none) none))
def Uw (a:qM) (b:Hw) (c:Aqy) (d:qN) (e:Ic) (k:Aw7 AAg AA):Aw7 AAg AA
 |.c0 g f=>mk (cond (((AsC f).tmod 64) != 56) (cond (Na f) (k (.c0 g (f++[DI]))) none) (k (.c1 (Ad (8*g.fCount)) 7 g f)))
 |.c1 g f h i=>mk (cond (JD f) (k (.c2 g f g 0 h i)) ((b h.F7).bind fun j=>c.bind fun l=>k (.c3 0 i j l)))
 |.c2 i f j h l g=>mk (cond (Aqt h f) (k (.c2 i f (Ad (j.tdiv 256)) (ArO h) l g)) (cond (Na g) (k (.c1 i (Lr f) l (g++[w8 (j.tmod 256)]))) none))
 |.c3 f g i j=>mk (cond (Aqt f (AsC g)) (cond (Ll f (Ad (f+64)) (AsC g)) ((d i j (ofBytes ((g.drop (BN f)).take ((Aqq (f+64)) - (BN f))))).bind fun h=>k (.c3 (Ad (f+64)) g h j)) none) (Ap2 (e i)))
def Aq2:AzH AAg AA
 |0,_=>none
 |m+1,s=>Uw WH WI oO dJ dH (Aq2 m) s
def LAi:BAt:=UAu WH WI oO dJ dH (Aq2 AY)
def EBT:Awe:=fy u1 LAi AEj Cc [EBD,QAu,HBD,IBD,MAu] Tryz.func124 DBT Uw UAu Aq2
def VAu (c:YAs) (d:AQd) (f:BAt):CG:=fun e=>mk (c.bind fun a=>(d a e).bind fun b=>Ap2 (f b))
def JB:CG:=VAu NAu KAi LAi
def P7:Awe:=BI u1 JB Cc Cc [VBS,CBT,EBT] Tryz.func73 VAu
def WAu (c:CG) (d:Yt):Om:=mk ((c IK).bind fun a=>(d 32 0).bind fun b=>some ⟨a,0,[],0,b,0⟩)
def WJ:Om:=WAu JB dB
def BAV:Awe:=BI u0 WJ Yc AEk [P7,YBC] Tryz.func50 WAu
inductive CAV where
 |c0 (a:Int) (b:(List Int))
def FBT:CAV->Avy
 |.c0 a b=>(tdo Tryz.f148 224,[vi 0 a,vo 3 240],[(240,.sl 5 b)])
def JBD (k:Aw7 CAV AA):Bl:=fun a=>k (.c0 a [])
def MAi (k:Aw7 CAV AA):Aw7 CAV AA
 |.c0 a b=>mk (cond (a > 127) (cond (Na b) (k (.c0 (Ad (a.tdiv 128)) (b++[w8 (Ad ((a.tmod 128)+128))]))) none) (Arm (Na b) (AsF (b++[w8 a]))))
def oQ:AzH CAV AA
 |0,_=>none
 |m+1,s=>MAi (oQ m) s
def Qg:Bl:=JBD (oQ AY)
def ZL:Awe:=fy u1 Qg FN Cc [] Tryz.func148 FBT MAi JBD oQ
def XAu (b:AqW):Arl:=fun a=>mk ((b a.fId 1 1000).bind fun c=>C9 (!c) (some false) ((b a.Aj 1 3).bind fun d=>C9 (!d) (some false) ((b a.fNext 0 16).bind fun e=>C9 (!e) (some false) (C9 (a.Aj != 2) (C9 (a.fNext != 0) (some false) (C9 (Me a) (some false) (C9 (a.Aj != 1) (C9 (ArU a) (some false) (JAU a)) (JAU a)))) (C9 (a.Aj != 1) (C9 (ArU a) (some false) (JAU a)) (JAU a))))))
def WL:Arl:=XAu Arz
def DAV:Awe:=BI u1 WL S9 E8 [JV] Tryz.func135 XAu
def KBD:CAt:=fun a b=>cond a (some b) (some 0)
def YAu:CAt:=KBD
def GBT:Awe:=BI u2 YAu AfU FN [] Tryz.func214 KBD
def ZAu:Bl:=fun a=>mk (cond (Av8 (a.tmod 256)) (AsF [w8 (Ad ((a.tmod 256)+256))]) (AsF [w8 (a.tmod 256)]))
def Arq:Bl:=ZAu
def XB:Awe:=BI u1 Arq FN Cc [] Tryz.func215 ZAu
def APB (c:Bl):CG:=fun b=>mk ((c (TT b)).bind fun a=>Arm (KZ a b) (some (a++b)))
def NAi:CG:=APB Qg
def HBT:Awe:=BI u1 NAi Cc Cc [ZL] Tryz.func216 APB
def BAv (p:Arl) (e:CAt) (n o:Bl) (q:CG):Aqv:=fun a=>mk ((p a).bind fun h=>cond (!h) (Ar2 (IK,false)) ((e (AqD a) 1).bind fun i=>(e (FK a) 2).bind fun j=>(e (Me a) 4).bind fun l=>(e (ArU a) 8).bind fun m=>(n a.fId).bind fun b=>(o a.Aj).bind fun c=>AqO (KZ b c) ((o (Fb (Fb (Fb i j) l) m)).bind fun d=>AqO (Gx b c d) ((q (Td a)).bind fun f=>AqO (Gx (b++c) d f) ((n a.fNext).bind fun g=>AqO (Gx ((b++c)++d) f g) (Ar2 ((((b++c)++d)++f)++g,true)))))))
def Ye:Aqv:=BAv WL YAu Qg Arq NAi
def OAi:Awe:=BI u1 Ye S9 IQ [DAV,GBT,ZL,XB,HBT] Tryz.func149 BAv
def CAv (f:AqW) (g:Bl) (i:Aqv):AwL:=fun a=>mk (cond (a.Aj == 1) (cond (AwY a.fText) (cond (Aq6 a.DR) (cond ((Aq6 (Qa a).fId) && ((Aq6 (Qa a).Aj) && (((AqD (Qa a)) == false) && (((FK (Qa a)) == false) && (((Me (Qa a)) == false) && (((ArU (Qa a)) == false) && ((fH a) && ((Aq6 (Qa a).fNext) && true)))))))) (AqO (KZ (Ap1 ⟨#[1]⟩) a.fText) (Ar2 ((Ap1 ⟨#[1]⟩)++a.fText,true))) (Ar2 (IK,false))) (Ar2 (IK,false))) (Ar2 (IK,false))) (cond (a.Aj == 2) (cond (Avd a.fText IK) (cond ((Aq6 (Qa a).fId) && ((Aq6 (Qa a).Aj) && (((AqD (Qa a)) == false) && (((FK (Qa a)) == false) && (((Me (Qa a)) == false) && (((ArU (Qa a)) == false) && ((fH a) && ((Aq6 (Qa a).fNext) && true)))))))) ((f a.DR 0 3).bind fun e=>cond e ((g a.DR).bind fun c=>AqO (KZ (Ap1 ⟨#[2]⟩) c) (Ar2 ((Ap1 ⟨#[2]⟩)++c,true))) (Ar2 (IK,false))) (Ar2 (IK,false))) (Ar2 (IK,false))) (cond (a.Aj == 3) ((i (Qa a)).bind fun b=>cond b.2 (cond (Avd a.fText IK) (cond (Aq6 a.DR) (AqO (KZ (Ap1 ⟨#[3]⟩) b.1) (Ar2 ((Ap1 ⟨#[3]⟩)++b.1,true))) (Ar2 (IK,false))) (Ar2 (IK,false))) (Ar2 (IK,false))) (cond (a.Aj == 4) (cond (Avd a.fText IK) (cond ((Aq6 (Qa a).fId) && ((Aq6 (Qa a).Aj) && (((AqD (Qa a)) == false) && (((FK (Qa a)) == false) && (((Me (Qa a)) == false) && (((ArU (Qa a)) == false) && ((fH a) && ((Aq6 (Qa a).fNext) && true)))))))) ((f a.DR 1 1000).bind fun h=>cond h ((g a.DR).bind fun d=>AqO (KZ (Ap1 ⟨#[4]⟩) d) (Ar2 ((Ap1 ⟨#[4]⟩)++d,true))) (Ar2 (IK,false))) (Ar2 (IK,false))) (Ar2 (IK,false))) (Ar2 (IK,false))))))
def dM:AwL:=CAv Arz Qg Ye
def DAv:Awe:=BI u1 dM AVD IQ [JV,ZL,OAi] Tryz.func100 CAv
inductive EAV where
 |c0 (a:Int) (b:Bo)
def IBT:EAV->Avy
 |.c0 b a=>(tdo Tryz.f86 464,[vp 1 64,vi 3 b],[(64,.var [.str a.Bv,li a.DU,.BG 76 a.AZ,li a.BM,.str a.Dh,li a.fCount])])
def EAv (b:AqW) (f:Arl) (k:Aw7 EAV Bool):AqC:=fun a=>mk (cond ((TT a.Bv) != 32) (some false) (cond ((TT (Aql a)) != 32) (some false) ((b a.DU 0 3).bind fun c=>cond (!c) (some false) (cond ((Lu a) > 8) (some false) ((b a.BM 0 1000).bind fun d=>cond (!d) (some false) ((b a.fCount 0 10000).bind fun e=>cond (!e) (some false) (k (.c0 0 a))))))))
def PAi (a:AqW) (b:Arl) (k:Aw7 EAV Bool):Aw7 EAV Bool
 |.c0 c d=>mk (cond (Gm c (Ig d)) (cond (AwI c (Ig d)) ((b (AwS (DC d) c ⟨0,0,false,false,false,false,IK,0⟩)).bind fun e=>cond (!e) (some false) (cond (AwI c (Ig d)) (cond (Qs (AwS (DC d) c ⟨0,0,false,false,false,false,IK,0⟩).fId d.BM) (some false) (cond (Avi c) (cond (AwE (Lr c) (Lu d)) (cond (AwI c (Ig d)) (cond (VN (AwS (DC d) (Lr c) ⟨0,0,false,false,false,false,IK,0⟩).fId (AwS (DC d) c ⟨0,0,false,false,false,false,IK,0⟩).fId) (some false) (k (.c0 (ArO c) d))) none) none) (k (.c0 (ArO c) d)))) none)) none) (some true))
def Yf:AzH EAV Bool
 |0,_=>none
 |m+1,s=>PAi Arz WL (Yf m) s
def dN:AqC:=EAv Arz WL (Yf AY)
def LBD:Awe:=fy u1 dN AEl E8 [JV,DAV] Tryz.func86 IBT PAi EAv Yf
def FAv:Ql:=fun a=>mk (cond (Av2 ((0+(Ig a))*48)) (some ⟨a.Bv,a.DU,DC a,a.BM,Aql a,a.fCount⟩) none)
def Yg:Ql:=FAv
def GAv:Awe:=BI u1 Yg AEl AEk [] Tryz.func79 FAv
inductive FAV where
 |c0 (a b:Int) (d:Bo) (e:Af)
def JBT:FAV->Avy
 |.c0 d e b a=>(tdo Tryz.f56 208,[vi 1 d,vp 2 128,vp 4 256,vi 6 e],[(128,.var [.str b.Bv,li b.DU,.BG 76 b.AZ,li b.BM,.str b.Dh,li b.fCount]),(256,.var [li a.fId,li a.Aj,.bool a.CY,.bool a.CX,.bool a.Gw,.bool a.GH,.str a.fValue,li a.fNext])])
def MBD (k:Aw7 FAV (Af×Bool)):MJ:=fun b a=>mk (k (.c0 a 0 b ⟨0,0,false,false,false,false,IK,0⟩))
def QAi (k:Aw7 FAV (Af×Bool)):Aw7 FAV (Af×Bool)
 |.c0 c a b d=>mk (cond (Gm a (Ig b)) (cond (AwI a (Ig b)) (cond ((AwS (DC b) a ⟨0,0,false,false,false,false,IK,0⟩).fId == c) (cond (AwI a (Ig b)) (some (AwS (DC b) a ⟨0,0,false,false,false,false,IK,0⟩,true)) none) (k (.c0 c (ArO a) b d))) none) (some (⟨0,0,false,false,false,false,IK,0⟩,false)))
def dP:AzH FAV (Af×Bool)
 |0,_=>none
 |m+1,s=>QAi (dP m) s
def Ux:MJ:=MBD (dP AY)
def GAV:Awe:=fy u2 Ux AKo Yb [] Tryz.func56 JBT QAi MBD dP
def HAv:eG:=fun a b=>mk (C9 (a.Aj == b.Aj) (C9 (Avd (Td a) (Td b)) (C9 ((Me a) == (Me b)) (C9 ((ArU a) == (ArU b)) (C9 (Avv a.fNext b.fNext) (C9 (AqD b) (C9 (FK b) (some true) (some (!(FK a)))) (C9 (!(AqD a)) (C9 (FK b) (some true) (some (!(FK a)))) (some false))) (some false)) (some false)) (some false)) (some false)) (some false))
def zG:eG:=HAv
def KBT:Awe:=BI u2 zG AVE E8 [] Tryz.func101 HAv
inductive IAV where
 |c0 (a:(List Af)) (e:Int) (b:Af) (d:(List Af))
 |c1 (a:(List Af)) (f:Int) (b:Af) (d:(List Af))
def LBT:IAV->Avy
 |.c0 b e a d=>(tdo Tryz.f102 464,[vr 0 76 b,vp 3 192,vo 5 368,vi 6 e],[(192,.var [li a.fId,li a.Aj,.bool a.CY,.bool a.CX,.bool a.Gw,.bool a.GH,.str a.fValue,li a.fNext]),(368,.sl 76 d)])
 |.c1 b f a d=>(tdo Tryz.f102 2000,[vr 0 76 b,vp 3 192,vo 5 368,vi 7 f],[(192,.var [li a.fId,li a.Aj,.bool a.CY,.bool a.CX,.bool a.Gw,.bool a.GH,.str a.fValue,li a.fNext]),(368,.sl 76 d)])
def IAv (k:Aw7 IAV (List Af)):VAg:=fun a b=>k (.c0 a 0 b [])
def oV (k:Aw7 IAV (List Af)):Aw7 IAV (List Af)
 |.c0 a b c d=>mk (cond (Gm b a.length) (cond (AwI b a.length) (cond (Aqt (AwS a b ⟨0,0,false,false,false,false,IK,0⟩).fId c.fId) (cond (AwI b a.length) (cond (Av2 ((d.length+1)*48)) (k (.c0 a (ArO b) c (d++[AwS a b ⟨0,0,false,false,false,false,IK,0⟩]))) none) none) (k (.c0 a (ArO b) c d))) none) (cond (Av2 ((d.length+1)*48)) (k (.c1 a 0 c (d++[c]))) none))
 |.c1 b a d c=>mk (cond (Gm a b.length) (cond (AwI a b.length) (cond (Qs (AwS b a ⟨0,0,false,false,false,false,IK,0⟩).fId d.fId) (cond (AwI a b.length) (cond (Av2 ((c.length+1)*48)) (k (.c1 b (ArO a) d (c++[AwS b a ⟨0,0,false,false,false,false,IK,0⟩]))) none) none) (k (.c1 b (ArO a) d c))) none) (some c))
def Ap9:AzH IAV (List Af)
 |0,_=>none
 |m+1,s=>oV (Ap9 m) s
def zH:VAg:=IAv (Ap9 AY)
def MBT:Awe:=fy u2 zH AfV AfW [] Tryz.func102 LBT oV IAv Ap9
inductive KAV where
 |c0 (a:AA) (b:Int) (d:Bo) (e:Ah) (f:AA) (g h:Int) (i:AA) (j:Int) (l:AA) (n o:Int) (p:AA) (q:Int) (t u v:(List Af))
def NBT:KAV->Avy
 |.c0 d e b a f g h i j l n o p q t u v=>(tdo Tryz.f55 32898512,[vp 2 128,vp 3 192,vp 4 256,vs 6 d,vp 8 512,vo 13 880,vi 14 e],[(128,.var [.str b.Bv,li b.DU,.BG 76 b.AZ,li b.BM,.str b.Dh,li b.fCount]),(192,.var [li a.Aj,.str a.fText,li a.DR,li a.Ag.fId,li a.Ag.Aj,.bool a.Ag.CY,.bool a.Ag.CX,.bool a.Ag.Gw,.bool a.Ag.GH,.str a.Ag.fValue,li a.Ag.fNext]),(256,.var [.str f,li g,.own 1016386,li h,.str i,li j]),(512,.var [.str l,li n,.own 1032770,li o,.str p,li q]),(880,.sl 76 t),(1016386,.sl 76 u),(1032770,.sl 76 v)])
def JAv (S:AwL) (e:AqC) (T:Ql) (F:MJ) (U:eG) (h:VAg) (f:CG) (k:Aw7 KAV (Bo×Bool)):AwA:=fun a c=>mk ((S c).bind fun d=>(e a).bind fun C=>cond (!C) (some (AwT,false)) (cond (!d.2) (some (AwT,false)) (cond (a.fCount == 10000) (some (AwT,false)) ((T a).bind fun b=>cond (c.Aj == 1) (cond (Nk a d) ((f ((Aql a)++d.1)).bind fun i=>(e ⟨c.fText,0,DC b,b.BM,i,OH a⟩).bind fun D=>Av9 D (AwT,false) (⟨c.fText,0,DC b,b.BM,i,OH a⟩,true)) none) (cond (c.Aj == 2) (cond (Nk a d) ((f ((Aql a)++d.1)).bind fun j=>(e ⟨b.Bv,c.DR,DC b,b.BM,j,OH a⟩).bind fun E=>Av9 E (AwT,false) (⟨b.Bv,c.DR,DC b,b.BM,j,OH a⟩,true)) none) (cond (c.Aj == 3) ((F a (Qa c).fId).bind fun g=>cond g.2 ((U g.1 (Qa c)).bind fun G=>cond (!G) (some (AwT,false)) (cond (!g.2) (cond ((Qa c).fId != (ArO a.BM)) (some (AwT,false)) (cond ((Lu a) == 8) (some (AwT,false)) (cond (!g.2) ((h (DC a) (Qa c)).bind fun l=>cond (Nk a d) ((f ((Aql a)++d.1)).bind fun m=>(e (WW b l c m a)).bind fun H=>Av9 H (AwT,false) (WW b l c m a,true)) none) ((h (DC a) (Qa c)).bind fun n=>cond (Nk a d) ((f ((Aql a)++d.1)).bind fun o=>(e (WY b n o a)).bind fun I=>Av9 I (AwT,false) (WY b n o a,true)) none)))) (cond (!g.2) ((h (DC a) (Qa c)).bind fun p=>cond (Nk a d) ((f ((Aql a)++d.1)).bind fun q=>(e (WW b p c q a)).bind fun J=>Av9 J (AwT,false) (WW b p c q a,true)) none) ((h (DC a) (Qa c)).bind fun r=>cond (Nk a d) ((f ((Aql a)++d.1)).bind fun s=>(e (WY b r s a)).bind fun L=>Av9 L (AwT,false) (WY b r s a,true)) none)))) (cond (!g.2) (cond ((Qa c).fId != (ArO a.BM)) (some (AwT,false)) (cond ((Lu a) == 8) (some (AwT,false)) (cond (!g.2) ((h (DC a) (Qa c)).bind fun t=>cond (Nk a d) ((f ((Aql a)++d.1)).bind fun u=>(e (WW b t c u a)).bind fun M=>Av9 M (AwT,false) (WW b t c u a,true)) none) ((h (DC a) (Qa c)).bind fun v=>cond (Nk a d) ((f ((Aql a)++d.1)).bind fun w=>(e (WY b v w a)).bind fun N=>Av9 N (AwT,false) (WY b v w a,true)) none)))) (cond (!g.2) ((h (DC a) (Qa c)).bind fun x=>cond (Nk a d) ((f ((Aql a)++d.1)).bind fun y=>(e (WW b x c y a)).bind fun O=>Av9 O (AwT,false) (WW b x c y a,true)) none) ((h (DC a) (Qa c)).bind fun z=>cond (Nk a d) ((f ((Aql a)++d.1)).bind fun A=>(e (WY b z A a)).bind fun P=>Av9 P (AwT,false) (WY b z A a,true)) none)))) (cond (c.Aj == 4) ((F a c.DR).bind fun Q=>cond (!Q.2) (some (AwT,false)) (k (.c0 d.1 0 a c IK 0 0 IK 0 b.Bv b.DU b.BM (Aql b) b.fCount [] [] (DC b)))) (cond (Nk a d) ((f ((Aql a)++d.1)).bind fun B=>(e ⟨b.Bv,b.DU,DC b,b.BM,B,OH a⟩).bind fun R=>Av9 R (AwT,false) (⟨b.Bv,b.DU,DC b,b.BM,B,OH a⟩,true)) none))))))))
def RAi (a:AwL) (b:AqC) (c:Ql) (d:MJ) (e:eG) (f:VAg) (g:CG) (k:Aw7 KAV (Bo×Bool)):Aw7 KAV (Bo×Bool)
 |.c0 l i h p r s t u v m n o w x j y z=>mk (cond (Gm i (Ig h)) (cond (AwI i (Ig h)) (cond ((AwS (DC h) i ⟨0,0,false,false,false,false,IK,0⟩).fId != p.DR) (cond (AwI i (Ig h)) (cond (Av2 ((j.length+1)*48)) (k (.c0 l (ArO i) h p r s t u v m n o w x (j++[AwS (DC h) i ⟨0,0,false,false,false,false,IK,0⟩]) y z)) none) none) (k (.c0 l (ArO i) h p r s t u v m n o w x j y z))) none) (cond (KZ (Aql h) l) ((g ((Aql h)++l)).bind fun q=>(b ⟨m,n,j,o,q,OH h⟩).bind fun A=>Av9 A (AwT,false) (⟨m,n,j,o,q,OH h⟩,true)) none))
def oW:AzH KAV (Bo×Bool)
 |0,_=>none
 |m+1,s=>RAi dM dN Yg Ux zG zH JB (oW m) s
def Arj:AwA:=JAv dM dN Yg Ux zG zH JB (oW AY)
def KAv:Awe:=fy u2 Arj AVF AEm [DAv,LBD,GAv,GAV,KBT,MBT,P7] Tryz.func55 NBT RAi JAv oW
inductive LAV where
 |c0 (a:AA) (b d:Int) (e:(List Int))
def OBT:LAV->Avy
 |.c0 a b d e=>(tdo Tryz.f287 976,[vs 0 a,(1,[.one (.int .u8 b)]),vo 5 368,vi 6 d],[(368,.sl 5 e)])
def LAv (d:CG) (k:Aw7 LAV AA):U6:=fun a c=>mk (cond ((TT a) > 64) ((d a).bind fun b=>k (.c0 b c 0 (Arv (64:Int)))) (k (.c0 a c 0 (Arv (64:Int)))))
def SAi (a:CG) (k:Aw7 LAV AA):Aw7 LAV AA
 |.c0 d e b c=>mk (cond (b<64) (cond (Aqt b (TT d)) (cond (AwE b (TT d)) (cond (Dt b c) (cond (Dt b (c.set (BN b) (bt d b))) (cond (Dt b (c.set (BN b) (bt d b))) (k (.c0 d e (ArO b) ((c.set (BN b) (bt d b)).set (BN b) (w8 (Ie AqS (GZ (c.set (BN b) (bt d b)) b) e))))) none) none) none) none) (cond (Dt b c) (cond (Dt b c) (k (.c0 d e (ArO b) (c.set (BN b) (w8 (Ie AqS (GZ c b) e))))) none) none)) (AsF c))
def dQ:AzH LAV AA
 |0,_=>none
 |m+1,s=>SAi JB (dQ m) s
def TAi:U6:=LAv JB (dQ AY)
def PBT:Awe:=fy u2 TAi AVG Cc [P7] Tryz.func287 OBT SAi LAv dQ
def MAv (d:U6) (g:CG):MQ:=fun e f=>mk ((d e 92).bind fun a=>(d e 54).bind fun b=>Arm (KZ b f) ((g (b++f)).bind fun c=>Arm (KZ a c) (Ap2 (g (a++c)))))
def oZ:MQ:=MAv TAi JB
def NBD:Awe:=BI u2 oZ KJ Cc [PBT,P7] Tryz.func256 MAv
inductive MAV where
 |c0 (a:AA) (b d e:Int) (f:(List Int))
def QBT:MAV->Avy
 |.c0 a b d e f=>(tdo Tryz.f202 976,[vs 0 a,vi 1 b,vi 2 d,vo 8 560,vi 9 e],[(560,.sl 5 f)])
def NAv (b:AqW) (g h:Bl) (i:MQ) (k:Aw7 MAV (AA×Bool)):Yu:=fun f c e=>mk ((b c 0 1000000000).bind fun a=>cond (!a) (Ar2 (IK,false)) ((b e 0 8000).bind fun d=>cond (!d) (Ar2 (IK,false)) (k (.c0 f c e 0 []))))
def UAi (a:AqW) (b c:Bl) (d:MQ) (k:Aw7 MAV (AA×Bool)):Aw7 MAV (AA×Bool)
 |.c0 m j f l e=>mk (cond (Aqt (AsC e) f) ((b j).bind fun g=>cond (KZ fF g) ((c l).bind fun i=>cond (Gx fF g i) ((d m ((fF++g)++i)).bind fun h=>cond (ArS h) (cond (rF e h) (k (.c0 m j f (ArO l) (e++(Pm h)))) none) none) none) none) (AqO (GK f (AsC e)) (Ar2 (ofBytes ((e.drop 0).take ((BN f) - 0)),true))))
def og:AzH MAV (AA×Bool)
 |0,_=>none
 |m+1,s=>UAi Arz Qg Arq oZ (og m) s
def zI:Yu:=NAv Arz Qg Arq oZ (og AY)
def OBD:Awe:=fy u3 zI wR IQ [JV,ZL,XB,NBD] Tryz.func202 QBT UAi NAv og
inductive OAV where
 |c0 (a:AA) (b:Int) (d:(List Int))
def RBT:OAV->Avy
 |.c0 a b d=>(tdo Tryz.f205 464,[vs 1 a,vo 5 368,vi 6 b],[(368,.sl 5 d)])
def OAv (k:Aw7 OAV AA):MQ:=fun a b=>mk (cond (ArS a) (k (.c0 b 0 (Pm a))) none)
def VAi (k:Aw7 OAV AA):Aw7 OAV AA
 |.c0 c a b=>mk (cond (Aqt a (AsC b)) (cond (Dt a b) (cond (AwE a (TT c)) (cond (Dt a b) (k (.c0 c (ArO a) (b.set (BN a) (w8 (Ie AqS (GZ b a) (bt c a)))))) none) none) none) (AsF b))
def oh:AzH OAV AA
 |0,_=>none
 |m+1,s=>VAi (oh m) s
def zJ:MQ:=OAv (oh AY)
def PBD:Awe:=fy u2 zJ KJ Cc [] Tryz.func205 RBT VAi OAv oh
def PAv (d:Bl) (f:MQ):Yv:=fun g e c=>mk ((d e).bind fun a=>Arm (KZ AsI a) (Arm (Gx AsI a c) ((f g ((AsI++a)++c)).bind fun b=>Arm ((Avv DI (16:Int)) && (decide (16<=(TT b)))) (some (P5 b (16:Int))))))
def zK:Yv:=PAv Qg oZ
def QBD:Awe:=BI u3 zK VA Cc [ZL,NBD] Tryz.func204 PAv
def QAv (g:Yu) (h:MQ) (i:Yv):Tn:=fun d e f=>mk ((g d e (TT f)).bind fun b=>cond (!b.2) (Ar2 (IK,false)) ((h f b.1).bind fun a=>(i d e a).bind fun c=>AqO (KZ a c) (Ar2 (a++c,true))))
def oq:Tn:=QAv zI zJ zK
def RBD:Awe:=BI u3 oq VA IQ [OBD,PBD,QBD] Tryz.func218 QAv
inductive RAV where
 |c0 (a:Int) (b:AA) (d:Int)
 |c1 (a:Int) (b:AA) (d e:Int)
def SBT:RAV->Avy
 |.c0 a b d=>(tdo Tryz.f258 208,[(0,[.one (.int .u32 a)]),vs 1 b,vi 5 d],[])
 |.c1 a b d e=>(tdo Tryz.f258 26928,[(0,[.one (.int .u32 a)]),vs 1 b,vi 5 d,vi 6 e],[])
def RAv (k:Aw7 RAV Int):qO:=fun a b=>k (.c0 a b 0)
def ou (k:Aw7 RAV Int):Aw7 RAV Int
 |.c0 c b a=>mk (cond (Aqt a (TT b)) (cond (AwE a (TT b)) (k (.c1 (OJ Em c (w32 (bt b a))) b a 0)) none) (some c))
 |.c1 a c d b=>mk (cond (b<8) (cond (OI a) (k (.c1 (w32 ((BitVec.toNat ((BitVec.ofInt Em (w32 (a.tdiv 2))) ^^^ (BitVec.ofInt Em 3558460437)):Nat):Int)) c d (ArO b))) (k (.c1 (w32 (a.tdiv 2)) c d (ArO b)))) (k (.c0 a c (ArO d))))
def AsO:AzH RAV Int
 |0,_=>none
 |m+1,s=>ou (AsO m) s
def WAi:qO:=RAv (AsO AY)
def TBT:Awe:=fy u2 WAi AVH UG [] Tryz.func258 SBT ou RAv AsO
def SAv (b:qO):Yw:=fun c=>(b 4294967295 c).bind fun a=>some a
def XAi:Yw:=SAv WAi
def UBT:Awe:=BI u1 XAi Cc UG [TBT] Tryz.func211 SAv
def TAv:Bl:=fun a=>mk (AsF [w8 (VK a (24:Int)),w8 (VK a (16:Int)),w8 (VK a (8:Int)),w8 a])
def YAi:Bl:=TAv
def VBT:Awe:=BI u1 YAi UG Cc [] Tryz.func210 TAv
def UAv (f:AqW) (g:Bl) (h:Yw) (i:Bl):Ap5:=fun a=>mk ((f (TT a) 1 9000).bind fun d=>cond (!d) (Ar2 (IK,false)) ((g (TT a)).bind fun b=>(h a).bind fun e=>(i e).bind fun c=>AqO (KZ b c) (AqO (Gx b c a) (Ar2 ((b++c)++a,true)))))
def Yh:Ap5:=UAv Arz Qg XAi YAi
def VAv:Awe:=BI u1 Yh Cc IQ [JV,ZL,UBT,VBT] Tryz.func143 UAv
def WAv (f:AwL) (h:AqW) (i:Tn) (l:Ap5):XD:=fun j c g=>mk ((f g).bind fun a=>cond (!a.2) (some ([],false)) ((h c 0 10000).bind fun b=>cond (!b) (some ([],false)) ((i j (ArO c) a.1).bind fun d=>(l d.1).bind fun e=>some ([⟨1,ArB,e.1,IK⟩,⟨2,ArB,IK,IK⟩],true))))
def oz:XD:=WAv dM Arz oq Yh
def SBD:Awe:=BI u3 oz AVI AVJ [DAv,JV,RBD,VAv] Tryz.func175 WAv
def XAv (a:AqW):VAT:=fun b=>mk (WU (a (TT b) 1 8))
def o7:VAT:=XAv Arz
def UBD:Awe:=BI u1 o7 Cc E8 [JV] Tryz.func134 XAv
inductive SAV where
 |c0 (a:Int) (b:BU)
def WBT:SAV->Avy
 |.c0 a b=>(tdo Tryz.f85 464,[vp 1 64,vi 3 a],[(64,.var [.BG 90 b.Ak])])
def YAv (b:VAT) (c:AqW) (k:Aw7 SAV Bool):MH:=fun a=>mk (cond ((Sj a:Int) > 30) (some false) (k (.c0 0 a)))
def ZAi (a:VAT) (b:AqW) (k:Aw7 SAV Bool):Aw7 SAV Bool
 |.c0 c d=>mk (cond (Gm c (Sj d)) (cond (Um c d) ((a (KE d c).fName).bind fun e=>cond (!e) (some false) (cond ((AwJ d c) > 20000) (some false) ((b (Aqh d c) 0 (AwJ d c)).bind fun f=>cond (!f) (some false) (cond (Avi c) (cond (AwE (Lr c) (Sj d:Int)) (cond (!(rD (Aqc d.Ak (Lr c)) (KE d c))) (some false) (k (.c0 (ArO c) d))) none) (k (.c0 (ArO c) d)))))) none) (some true))
def o8:AzH SAV Bool
 |0,_=>none
 |m+1,s=>ZAi o7 Arz (o8 m) s
def WM:MH:=YAv o7 Arz (o8 AY)
def AIN:Awe:=fy u1 WM AKp E8 [UBD,JV] Tryz.func85 WBT ZAi YAv o8
inductive TAV where
 |c0 (a:AA) (b:Int) (d:BU)
def XBT:TAV->Avy
 |.c0 a b d=>(tdo Tryz.f96 208,[vs 1 a,vp 2 128,vi 5 b],[(128,.var [.BG 90 d.Ak])])
def ZAv (k:Aw7 TAV Int):Aqr:=fun b a=>k (.c0 a 0 b)
def BAj (k:Aw7 TAV Int):Aw7 TAV Int
 |.c0 c a b=>mk (cond (Gm a (Sj b)) (cond (Um a b) (cond (Avd (KE b a).fName c) (some a) (k (.c0 c (ArO a) b))) none) AwO)
def pF:AzH TAV Int
 |0,_=>none
 |m+1,s=>BAj (pF m) s
def o9:Aqr:=ZAv (pF AY)
def ARH:Awe:=fy u2 o9 wS FN [] Tryz.func96 XBT BAj ZAv pF
inductive UAV where
 |c0 (f:Int) (a:BU) (b:BQ) (d e:(List BQ))
 |c1 (g:Int) (a:BU) (b:BQ) (d e:(List BQ))
def YBT:UAV->Avy
 |.c0 f b a d e=>(tdo Tryz.f251 464,[vp 2 128,vp 3 192,vp 4 256,vp 5 320,vi 6 f],[(128,.var [.BG 90 b.Ak]),(192,.var [.str a.fName,.str a.fText,li a.J3]),(256,.var [.own 1016384]),(320,.var [.own 1020480]),(1016384,.sl 90 d),(1020480,.sl 90 e)])
 |.c1 g b a d e=>(tdo Tryz.f251 2000,[vp 2 128,vp 3 192,vp 4 256,vp 5 320,vi 7 g],[(128,.var [.BG 90 b.Ak]),(192,.var [.str a.fName,.str a.fText,li a.J3]),(256,.var [.own 1016384]),(320,.var [.own 1020480]),(1016384,.sl 90 d),(1020480,.sl 90 e)])
def BAw (k:Aw7 UAV BU):qP:=fun a b=>k (.c0 0 a b [] [])
def pG (k:Aw7 UAV BU):Aw7 UAV BU
 |.c0 b a c e d=>mk (cond (Gm b (Sj a)) (cond (Um b a) (cond (rD (KE a b) c) (cond (Um b a) (cond (Rj d) (k (.c0 (ArO b) a c e (d++[KE a b]))) none) none) (k (.c0 (ArO b) a c e d))) none) (cond (Rj d) (k (.c1 0 a c e (d++[c]))) none))
 |.c1 a b c e d=>mk (cond (Gm a (Sj b)) (cond (Um a b) (cond (!((rD (KE b a) c) || (Avd (KE b a).fName c.fName))) (cond (Um a b) (cond (Rj d) (k (.c1 (ArO a) b c e (d++[KE b a]))) none) none) (k (.c1 (ArO a) b c e d))) none) (some ⟨d⟩))
def Av3:AzH UAV BU
 |0,_=>none
 |m+1,s=>pG (Av3 m) s
def CAj:qP:=BAw (Av3 AY)
def ZBT:Awe:=fy u2 CAj AfX jo [] Tryz.func251 YBT pG BAw Av3
inductive VAV where
 |c0 (a:AA) (b:Int) (d:BU) (e f:(List BQ))
def Ak8:VAV->Avy
 |.c0 a b d e f=>(tdo Tryz.f252 464,[vs 1 a,vp 2 128,vp 4 256,vp 5 320,vi 6 b],[(128,.var [.BG 90 d.Ak]),(256,.var [.own 1016384]),(320,.var [.own 1020480]),(1016384,.sl 90 e),(1020480,.sl 90 f)])
def CAw (k:Aw7 VAV BU):Yx:=fun b a=>k (.c0 a 0 b [] [])
def DAj (k:Aw7 VAV BU):Aw7 VAV BU
 |.c0 d a b e c=>mk (cond (Gm a (Sj b)) (cond (Um a b) (cond (!(Avd (KE b a).fName d)) (cond (Um a b) (cond (Rj c) (k (.c0 d (ArO a) b e (c++[KE b a]))) none) none) (k (.c0 d (ArO a) b e c))) none) (some ⟨c⟩))
def pI:AzH VAV BU
 |0,_=>none
 |m+1,s=>DAj (pI m) s
def EAj:Yx:=CAw (pI AY)
def BBU:Awe:=fy u2 EAj wS jo [] Tryz.func252 Ak8 DAj CAw pI
def DAw (c:MH) (j:VAT) (l:Aqr) (d:qP) (e:Yx):Yy:=fun b a=>mk (Ap4 (c b) (Jb (IZ,false)) (Ap4 (j a.fName) (Jb (IZ,false)) (cond (a.Aj != 3) (cond (!(Avd a.I8 IK)) (Jb (IZ,false)) (cond (a.Aj != 1) (cond (!(Avd a.fText IK)) (Jb (IZ,false)) ((l b a.fName).bind fun f=>cond (JD f) (AqA (Um f b) (cond (Qq a) (AqA (KZ (KF b f) a.fText) ((d b (AwC b f a)).bind fun m=>Awa c m (IZ,false) (m,true))) (cond (Av8 f) (Jb (IZ,false)) (cond (ArC a) ((d b (WX b f)).bind fun n=>Awa c n (IZ,false) (n,true)) (NZ a.Aj (Aqt (Aqh b f) (AwJ b f)) (Jb (IZ,false)) (cond (Oq a) (Jb (IZ,false)) (Ap4 (j a.I8) (Jb (IZ,false)) ((e b a.fName).bind fun T=>(d T (W9 a b f)).bind fun o=>Awa c o (IZ,false) (o,true)))) (Tq a) ((e b a.fName).bind fun p=>Awa c p (IZ,false) (p,true))))))) (cond (Qq a) (AqA (Wx a) ((d b (WZ a)).bind fun q=>Awa c q (IZ,false) (q,true))) (cond (Av8 f) (Jb (IZ,false)) (cond (ArC a) ((d b (Wh a)).bind fun r=>Awa c r (IZ,false) (r,true)) (NZ a.Aj (Oq a) (Jb (IZ,false)) (Ap4 (j a.I8) (Jb (IZ,false)) ((e b a.fName).bind fun U=>(d U (XA a)).bind fun s=>Awa c s (IZ,false) (s,true))) (Tq a) ((e b a.fName).bind fun t=>Awa c t (IZ,false) (t,true)))))))) ((l b a.fName).bind fun g=>cond (JD g) (AqA (Um g b) (cond (Qq a) (AqA (KZ (KF b g) a.fText) ((d b (AwC b g a)).bind fun u=>Awa c u (IZ,false) (u,true))) (cond (Av8 g) (Jb (IZ,false)) (cond (ArC a) ((d b (WX b g)).bind fun v=>Awa c v (IZ,false) (v,true)) (NZ a.Aj (Aqt (Aqh b g) (AwJ b g)) (Jb (IZ,false)) (cond (Oq a) (Jb (IZ,false)) (Ap4 (j a.I8) (Jb (IZ,false)) ((e b a.fName).bind fun V=>(d V (W9 a b g)).bind fun w=>Awa c w (IZ,false) (w,true)))) (Tq a) ((e b a.fName).bind fun x=>Awa c x (IZ,false) (x,true))))))) (cond (Qq a) (AqA (Wx a) ((d b (WZ a)).bind fun y=>Awa c y (IZ,false) (y,true))) (cond (Av8 g) (Jb (IZ,false)) (cond (ArC a) ((d b (Wh a)).bind fun z=>Awa c z (IZ,false) (z,true)) (NZ a.Aj (Oq a) (Jb (IZ,false)) (Ap4 (j a.I8) (Jb (IZ,false)) ((e b a.fName).bind fun W=>(d W (XA a)).bind fun A=>Awa c A (IZ,false) (A,true))) (Tq a) ((e b a.fName).bind fun B=>Awa c B (IZ,false) (B,true))))))))) (cond (a.Aj != 1) (cond (!(Avd a.fText IK)) (Jb (IZ,false)) ((l b a.fName).bind fun h=>cond (JD h) (AqA (Um h b) (cond (Qq a) (AqA (KZ (KF b h) a.fText) ((d b (AwC b h a)).bind fun C=>Awa c C (IZ,false) (C,true))) (cond (Av8 h) (Jb (IZ,false)) (cond (ArC a) ((d b (WX b h)).bind fun D=>Awa c D (IZ,false) (D,true)) (NZ a.Aj (Aqt (Aqh b h) (AwJ b h)) (Jb (IZ,false)) (cond (Oq a) (Jb (IZ,false)) (Ap4 (j a.I8) (Jb (IZ,false)) ((e b a.fName).bind fun X=>(d X (W9 a b h)).bind fun E=>Awa c E (IZ,false) (E,true)))) (Tq a) ((e b a.fName).bind fun F=>Awa c F (IZ,false) (F,true))))))) (cond (Qq a) (AqA (Wx a) ((d b (WZ a)).bind fun G=>Awa c G (IZ,false) (G,true))) (cond (Av8 h) (Jb (IZ,false)) (cond (ArC a) ((d b (Wh a)).bind fun H=>Awa c H (IZ,false) (H,true)) (NZ a.Aj (Oq a) (Jb (IZ,false)) (Ap4 (j a.I8) (Jb (IZ,false)) ((e b a.fName).bind fun Y=>(d Y (XA a)).bind fun I=>Awa c I (IZ,false) (I,true))) (Tq a) ((e b a.fName).bind fun J=>Awa c J (IZ,false) (J,true)))))))) ((l b a.fName).bind fun i=>cond (JD i) (AqA (Um i b) (cond (Qq a) (AqA (KZ (KF b i) a.fText) ((d b (AwC b i a)).bind fun L=>Awa c L (IZ,false) (L,true))) (cond (Av8 i) (Jb (IZ,false)) (cond (ArC a) ((d b (WX b i)).bind fun M=>Awa c M (IZ,false) (M,true)) (NZ a.Aj (Aqt (Aqh b i) (AwJ b i)) (Jb (IZ,false)) (cond (Oq a) (Jb (IZ,false)) (Ap4 (j a.I8) (Jb (IZ,false)) ((e b a.fName).bind fun Z=>(d Z (W9 a b i)).bind fun N=>Awa c N (IZ,false) (N,true)))) (Tq a) ((e b a.fName).bind fun O=>Awa c O (IZ,false) (O,true))))))) (cond (Qq a) (AqA (Wx a) ((d b (WZ a)).bind fun P=>Awa c P (IZ,false) (P,true))) (cond (Av8 i) (Jb (IZ,false)) (cond (ArC a) ((d b (Wh a)).bind fun Q=>Awa c Q (IZ,false) (Q,true)) (NZ a.Aj (Oq a) (Jb (IZ,false)) (Ap4 (j a.I8) (Jb (IZ,false)) ((e b a.fName).bind fun a0=>(d a0 (XA a)).bind fun R=>Awa c R (IZ,false) (R,true))) (Tq a) ((e b a.fName).bind fun S=>Awa c S (IZ,false) (S,true)))))))))))
def zM:Yy:=DAw WM o7 o9 CAj EAj
def CBU:Awe:=BI u2 zM AVK jq [AIN,UBD,ARH,ZBT,BBU] Tryz.func195 DAw
inductive XAV where
 |c0 (a:(List Ef)) (b:Int) (d e:(List BQ))
def DBU:XAV->Avy
 |.c0 a b d e=>(tdo Tryz.f132 464,[vr 1 136 a,vp 4 256,vp 6 384,vi 7 b],[(256,.var [.own 1016384]),(384,.var [.own 1024576]),(1016384,.sl 90 d),(1024576,.sl 90 e)])
def EAw (c:Yy) (k:Aw7 XAV (BU×Int)):U5:=fun a b=>mk (cond (Av2 ((0+(Sj a))*40)) (k (.c0 b 0 [] a.Ak)) none)
def FAj (a:Yy) (k:Aw7 XAV (BU×Int)):Aw7 XAV (BU×Int)
 |.c0 c b f e=>mk (cond (Gm b c.length) (cond (AwI b c.length) ((a ⟨e⟩ (c.getD (BN b) (⟨0,IK,IK,IK⟩:Ef))).bind fun d=>cond (!d.2) (some (⟨e⟩,b)) (k (.c0 c (ArO b) f d.1.Ak))) none) (some (⟨e⟩,Qi c)))
def pK:AzH XAV (BU×Int)
 |0,_=>none
 |m+1,s=>FAj zM (pK m) s
def pJ:U5:=EAw zM (pK AY)
def FAw:Awe:=fy u2 pJ AVL AVM [CBU] Tryz.func132 DBU FAj EAw pK
def GAw (c:XD) (g:U5):WAT:=fun d h e f=>(c d e f).bind fun a=>(g h a.1).bind fun b=>some b.1
def aF:WAT:=GAw oz pJ
def VBD:Awe:=BI u4 aF AfY jo [SBD,FAw] Tryz.func123 GAw
def HAw (g:CG) (h:Om) (i:AwA) (j:WAT):eF:=fun a c=>mk (cond ((TT a) != 32) (some (⟨IK,false,IZ,AwT,[],[],0⟩,false)) (cond ((TT c) > 20) (some (⟨IK,false,IZ,AwT,[],[],0⟩,false)) ((g c).bind fun b=>h.bind fun d=>(i d ⟨1,b,0,⟨0,0,false,false,false,false,IK,0⟩⟩).bind fun e=>(j a IZ 0 ⟨1,b,0,⟨0,0,false,false,false,false,IK,0⟩⟩).bind fun f=>some (⟨a,true,f,e.1,[],[],0⟩,true))))
def GAj:eF:=HAw JB WJ Arj aF
def EBU:Awe:=BI u2 GAj KJ AEn [P7,BAV,KAv,VBD] Tryz.func72 HAw
def IAw (d:eF) (f:CG):qJ:=fun e b=>mk ((d e b).bind fun a=>cond (!a.2) (some (⟨⟨IK,false,IZ,AwT,[],[],0⟩,[],[],[],[]⟩,false)) ((f b).bind fun c=>some (⟨a.1,[],[],[],[⟨1,c,0,⟨0,0,false,false,false,false,IK,0⟩⟩]⟩,true)))
def aJ:qJ:=IAw GAj JB
def WBD:Awe:=BI u2 aJ KJ AKq [EBU,P7] Tryz.func33 IAw
def JAw (b:Uz):eH:=fun c d=>mk ((b (Arp c) d).bind fun a=>some (Aq6 a.1,Arp a.2))
def Av4:eH:=JAw PD
def KAw:Awe:=BI u2 Av4 cv5 AfZ [fM] Tryz.func104 JAw [0]
def LAw (c:Uz):WAg:=fun d b=>mk ((c (Arp d) (AsC b)).bind fun a=>cond (AwE a.1 (AsC b)) (some (GZ b a.1,Arp a.2)) none)
def zT:WAg:=LAw PD
def FBU:Awe:=BI u2 zT Afa cv4 [fM] Tryz.func150 LAw [0]
def MAw (c:Uz):XAT:=fun d b=>mk ((c (Arp d) (En b)).bind fun a=>cond (AwE a.1 (En b)) (some (Tf b a.1 IK,Arp a.2)) none)
def pR:XAT:=MAw PD
def XBD:Awe:=BI u2 pR Afb AVN [fM] Tryz.func151 MAw [0]
inductive ZAV where
 |c0 (a b:Int) (d e:Int) (f:(List Int))
def GBU:ZAV->Avy
 |.c0 a b d e f=>(tdo Tryz.f217 976,[vp 0 0,vi 1 a,vo 5 368,vi 6 b],[(0,.var [.J4,li d,li e]),(368,.sl 5 f)])
def NAw (c:UAT) (k:Aw7 ZAV (AA×DZ)):DAt:=fun a b=>cond (b > 5000) (k (.c0 5000 0 a.fI a.AyA [])) (k (.c0 b 0 a.fI a.AyA []))
def HAj (a:UAT) (k:Aw7 ZAV (AA×DZ)):Aw7 ZAV (AA×DZ)
 |.c0 e d f g c=>mk (cond (Aqt d e) ((a ⟨(),f,g⟩).bind fun b=>cond (Na c) (k (.c0 e (ArO d) b.2.fI b.2.AyA (c++[w8 b.1]))) none) (some (ofBytes c,⟨(),f,g⟩)))
def dR:AzH ZAV (AA×DZ)
 |0,_=>none
 |m+1,s=>HAj oH (dR m) s
def IAj:DAt:=NAw oH (dR AY)
def HBU:Awe:=fy u2 IAj cv5 AVN [XBC] Tryz.func217 GBU HAj NAw dR [0]
def OAw (e:Uz) (f:eH) (t:DAt) (o:XAT) (q:CG):XAg:=fun s=>mk ((e (Arp s) 6).bind fun c=>(e (Arp c.2) 3).bind fun a=>(f (Arp a.2) 2).bind fun d=>(f (Arp d.2) 2).bind fun b=>cond ((Ad (1+a.1)) == 3) ((e (Arp b.2) 9).bind fun g=>(t (Arp g.2) g.1).bind fun h=>some (⟨Ad (1+c.1),Ad (1+a.1),d.1,b.1,false,false,h.1,0⟩,Arp h.2)) (cond ((Ad (1+a.1)) == 2) ((e (Arp b.2) 17).bind fun i=>(f (Arp i.2) 4).bind fun j=>(o (Arp j.2) ZAh).bind fun l=>(q l.1).bind fun p=>some (⟨Ad (1+c.1),Ad (1+a.1),d.1,b.1,!j.1,false,p,i.1⟩,Arp l.2)) ((f (Arp b.2) 4).bind fun m=>(o (Arp m.2) ZAh).bind fun n=>(q n.1).bind fun r=>some (⟨Ad (1+c.1),Ad (1+a.1),d.1,b.1,false,!m.1,r,0⟩,Arp n.2))))
def zU:XAg:=OAw PD Av4 IAj pR JB
def IBU:Awe:=BI u1 zU cv3 Afc [fM,KAw,HBU,XBD,P7] Tryz.func152 OAw [0]
def PAw (b:CG):ArW:=fun a=>mk (Arm (KZ rG a.BO) (Ap2 (b (rG++a.BO))))
def bZ:ArW:=PAw JB
def QAw:Awe:=BI u1 bZ RD Cc [P7] Tryz.func154 PAw
inductive BAW where
 |c0 (a:AA) (b:(List Int))
def JBU:BAW->Avy
 |.c0 a b=>(tdo Tryz.f153 480,[vs 0 a,vo 6 432],[(432,.sl 5 b)])
def RAw (c:Bl) (e:Tn) (k:Aw7 BAW (AA×Bool)):Avk:=fun d a=>mk (cond ((TT a) > 400) (Ar2 (IK,false)) ((c (TT a)).bind fun b=>cond (KZ b a) (cond (ArS (b++a)) (k (.c0 d (Pm (b++a)))) none) none))
def JAj (a:Bl) (b:Tn) (k:Aw7 BAW (AA×Bool)):Aw7 BAW (AA×Bool)
 |.c0 e c=>mk (cond (((AsC c).tmod 16) != 0) (cond (Na c) (k (.c0 e (c++[DI]))) none) ((b e 0 (ofBytes c)).bind fun d=>Ar2 (d.1,d.2)))
def nM:AzH BAW (AA×Bool)
 |0,_=>none
 |m+1,s=>JAj Qg oq (nM m) s
def bf:Avk:=RAw Qg oq (nM AY)
def SAw:Awe:=fy u2 bf KJ IQ [ZL,RBD] Tryz.func153 JBU JAj RAw nM
inductive CAW where
 |c0 (f:AA) (a b:Int) (g:Ap) (d e:CV)
 |c1 (f:AA) (h a b:Int) (g:Ap) (d e:CV)
 |c2 (f:AA) (a b:Int) (g:Ap) (d e:CV)
 |c3 (a b:Int) (d e:CV)
 |c4 (a b:Int) (d e:CV)
def KBU:CAW->Avy
 |.c0 g e f d a b=>(tdo Tryz.f105 60,[vp 0 0,vs 2 g,vp 4 256,vp 6 384,vp 7 448],[(0,.var [.J4,li e,li f]),(256,.var [.str d.BO,.bool d.CZ,.BG 90 d.Bc.Ak,.str d.AU.Bv,li d.AU.DU,.BG 76 d.AU.AZ,li d.AU.BM,.str d.AU.Dh,li d.AU.fCount,.BG 127 d.BP,.BG 157 d.BD,li d.CW]),(384,.var [li a.Au,li a.EJ,li a.Ag,li a.Aj,.str a.fText,.bool a.CY,.bool a.CX]),(448,.var [li b.Au,li b.EJ,li b.Ag,li b.Aj,.str b.fText,.bool b.CY,.bool b.CX])])
 |.c1 g h e f d a b=>(tdo Tryz.f105 31440,[vp 0 0,vs 2 g,vp 4 256,vp 6 384,vp 7 448,vi 8 h],[(0,.var [.J4,li e,li f]),(256,.var [.str d.BO,.bool d.CZ,.BG 90 d.Bc.Ak,.str d.AU.Bv,li d.AU.DU,.BG 76 d.AU.AZ,li d.AU.BM,.str d.AU.Dh,li d.AU.fCount,.BG 127 d.BP,.BG 157 d.BD,li d.CW]),(384,.var [li a.Au,li a.EJ,li a.Ag,li a.Aj,.str a.fText,.bool a.CY,.bool a.CX]),(448,.var [li b.Au,li b.EJ,li b.Ag,li b.Aj,.str b.fText,.bool b.CY,.bool b.CX])])
 |.c2 g e f d a b=>(tdo Tryz.f105 124,[vp 0 0,vs 2 g,vp 4 256,vp 6 384,vp 7 448],[(0,.var [.J4,li e,li f]),(256,.var [.str d.BO,.bool d.CZ,.BG 90 d.Bc.Ak,.str d.AU.Bv,li d.AU.DU,.BG 76 d.AU.AZ,li d.AU.BM,.str d.AU.Dh,li d.AU.fCount,.BG 127 d.BP,.BG 157 d.BD,li d.CW]),(384,.var [li a.Au,li a.EJ,li a.Ag,li a.Aj,.str a.fText,.bool a.CY,.bool a.CX]),(448,.var [li b.Au,li b.EJ,li b.Ag,li b.Aj,.str b.fText,.bool b.CY,.bool b.CX])])
 |.c3 e f a b=>(tdo Tryz.f105 252,[vp 0 0,vp 6 384,vp 7 448],[(0,.var [.J4,li e,li f]),(384,.var [li a.Au,li a.EJ,li a.Ag,li a.Aj,.str a.fText,.bool a.CY,.bool a.CX]),(448,.var [li b.Au,li b.EJ,li b.Ag,li b.Aj,.str b.fText,.bool b.CY,.bool b.CX])])
 |.c4 e f a b=>(tdo Tryz.f105 508,[vp 0 0,vp 6 384,vp 7 448],[(0,.var [.J4,li e,li f]),(384,.var [li a.Au,li a.EJ,li a.Ag,li a.Aj,.str a.fText,.bool a.CY,.bool a.CX]),(448,.var [li b.Au,li b.EJ,li b.Ag,li b.Aj,.str b.fText,.bool b.CY,.bool b.CX])])
def TAw (f:WAg) (h:Uz) (i:eH) (j:XAT) (l:XAg) (m:Aqv) (n:ArW) (o:Avk) (k:Aw7 CAW (CV×DZ)):EAt:=fun g a e=>mk ((f (Arp g) [1,2,2,3,4,4,4,5,5,5,6,7,8,9,10,11,12,13]).bind fun c=>cond (Aq6 (Fe a:Int)) (k (.c0 e c.2.fI c.2.AyA a ⟨0,0,0,0,IK,false,false⟩ ⟨1,0,0,0,IK,false,false⟩)) ((h (Arp c.2) (Fe a:Int)).bind fun b=>cond (AwE b.1 (Fe a:Int)) (cond (RI DI (Fe a:Int)) (cond (!(Ap7 (Es a) DI ⟨0,false⟩).QW) ((i (Arp b.2) 4).bind fun d=>cond (!d.1) (cond (RI DI (Fe a:Int)) (k (.c0 e d.2.fI d.2.AyA a ⟨0,0,0,0,IK,false,false⟩ ⟨2,(Ap7 (Es a) DI ⟨0,false⟩).fId,0,0,IK,false,false⟩)) none) (k (.c0 e d.2.fI d.2.AyA a ⟨0,0,0,0,IK,false,false⟩ ⟨c.1,(Ap7 (Es a) b.1 ⟨0,false⟩).fId,0,0,IK,false,false⟩))) (k (.c0 e b.2.fI b.2.AyA a ⟨0,0,0,0,IK,false,false⟩ ⟨c.1,(Ap7 (Es a) b.1 ⟨0,false⟩).fId,0,0,IK,false,false⟩))) none) none))
def Xe (a:WAg) (b:Uz) (c:eH) (d:XAT) (e:XAg) (f:Aqv) (g:ArW) (h:Avk) (k:Aw7 CAW (CV×DZ)):Aw7 CAW (CV×DZ)
 |.c0 m o p j n i=>mk (cond (Avi (Lu (DX j))) ((b ⟨(),o,p⟩ (Lu (DX j))).bind fun l=>cond (AwE l.1 (Lu (DX j))) (cond (i.Au == 5) (k (.c1 m 0 l.2.fI l.2.AyA j n ⟨i.Au,ArX i,(AwS (DC (DX j)) l.1 ⟨0,0,false,false,false,false,IK,0⟩).fId,i.Aj,i.fText,i.CY,i.CX⟩)) (k (.c2 m l.2.fI l.2.AyA j n ⟨i.Au,ArX i,(AwS (DC (DX j)) l.1 ⟨0,0,false,false,false,false,IK,0⟩).fId,i.Aj,i.fText,i.CY,i.CX⟩))) none) (k (.c2 m o p j n i)))
 |.c1 n l p q i o j=>mk (cond (Gm l (Ig (DX i))) (cond (AwI l (Ig (DX i))) (cond (Me (AwS (DC (DX i)) l ⟨0,0,false,false,false,false,IK,0⟩)) ((c ⟨(),p,q⟩ 3).bind fun m=>cond (!m.1) (cond (AwI l (Ig (DX i))) (k (.c1 n (ArO l) m.2.fI m.2.AyA i o ⟨j.Au,ArX j,(AwS (DC (DX i)) l ⟨0,0,false,false,false,false,IK,0⟩).fId,j.Aj,j.fText,j.CY,j.CX⟩)) none) (k (.c1 n (ArO l) m.2.fI m.2.AyA i o j))) (k (.c1 n (ArO l) p q i o j))) none) (k (.c2 n p q i o j)))
 |.c2 w l m A j i=>mk (cond (i.Au == 2) ((c ⟨(),l,m⟩ 4).bind fun n=>cond n.1 (k (.c3 n.2.fI n.2.AyA j ⟨i.Au,ArX i,i.Ag,i.Aj,⟨#[110,111]⟩,i.CY,i.CX⟩)) (k (.c3 n.2.fI n.2.AyA j ⟨i.Au,ArX i,i.Ag,i.Aj,w,i.CY,i.CX⟩))) (cond (i.Au == 3) (k (.c3 l m j ⟨i.Au,ArX i,i.Ag,i.Aj,w,i.CY,i.CX⟩)) (cond (i.Au == 4) ((a ⟨(),l,m⟩ [1,2,2,2,3,3]).bind fun s=>(d (Arp s.2) ZAh).bind fun t=>(c (Arp t.2) 3).bind fun u=>(c (Arp u.2) 3).bind fun o=>k (.c3 o.2.fI o.2.AyA j ⟨i.Au,ArX i,i.Ag,s.1,t.1,u.1,o.1⟩)) (cond (i.Au == 5) ((d ⟨(),l,m⟩ [⟨#[109]⟩,⟨#[110]⟩]).bind fun p=>k (.c3 p.2.fI p.2.AyA j ⟨i.Au,ArX i,i.Ag,i.Aj,p.1,i.CY,i.CX⟩)) (cond (i.Au == 8) ((c ⟨(),l,m⟩ 4).bind fun v=>(c (Arp v.2) 2).bind fun q=>k (.c3 q.2.fI q.2.AyA j ⟨i.Au,ArX i,i.Ag,i.Aj,i.fText,!v.1,q.1⟩)) (cond (i.Au == 11) ((e ⟨(),l,m⟩).bind fun r=>(f r.1).bind fun x=>(g A).bind fun y=>(h y x.1).bind fun z=>k (.c3 r.2.fI r.2.AyA j ⟨i.Au,ArX i,i.Ag,i.Aj,z.1,i.CY,i.CX⟩)) (k (.c3 l m j i))))))))
 |.c3 n o m i=>mk ((c ⟨(),n,o⟩ 20).bind fun j=>cond j.1 ((b (Arp j.2) 5).bind fun l=>k (.c4 l.2.fI l.2.AyA m ⟨i.Au,l.1,i.Ag,i.Aj,i.fText,i.CY,i.CX⟩)) (k (.c4 j.2.fI j.2.AyA m i)))
 |.c4 m n _ i=>mk ((c ⟨(),m,n⟩ 20).bind fun j=>cond j.1 ((b (Arp j.2) 9).bind fun l=>some (⟨i.Au,ArX i,l.1,i.Aj,i.fText,i.CY,i.CX⟩,Arp l.2)) (some (i,Arp j.2)))
def O9:AzH CAW (CV×DZ)
 |0,_=>none
 |m+1,s=>Xe zT PD Av4 pR zU Ye bZ bf (O9 m) s
def KAj:EAt:=TAw zT PD Av4 pR zU Ye bZ bf (O9 AY)
def LBU:Awe:=fy u3 KAj Afd Afe [FBU,fM,KAw,XBD,IBU,OAi,QAw,SAw] Tryz.func105 KBU Xe TAw O9 [0]
def UAw (b:eH) (L:EAt) (c:Uz):YAg:=fun J a=>mk (cond (!(Av0 a)) ((b (Arp J) 4).bind fun h=>cond (!h.1) (some (⟨⟨0,0,0,0,IK,false,false⟩,false,[],true⟩,Arp h.2,a)) ((L (Arp h.2) a.AX ⟨#[119]⟩).bind fun d=>cond (Avi (En (ArN a))) (cond (d.1.Au == 11) ((b (Arp d.2) 2).bind fun i=>cond i.1 ((c (Arp i.2) (En (ArN a))).bind fun f=>cond (AwE f.1 (En (ArN a))) ((b (Arp f.2) 12).bind fun j=>cond j.1 ((c (Arp j.2) 2000).bind fun t=>(c (Arp t.2) 50).bind fun u=>NW b u.2 ⟨⟨0,0,0,0,IK,false,false⟩,false,[],true⟩ a ⟨FAU d a f,true,[t.1,u.1],false⟩) (NW b j.2 ⟨⟨0,0,0,0,IK,false,false⟩,false,[],true⟩ a ⟨FAU d a f,false,[],false⟩)) none) ((b (Arp i.2) 12).bind fun l=>cond l.1 ((c (Arp l.2) 2000).bind fun v=>(c (Arp v.2) 50).bind fun w=>NW b w.2 ⟨⟨0,0,0,0,IK,false,false⟩,false,[],true⟩ a ⟨d.1,true,[v.1,w.1],false⟩) (NW b l.2 ⟨⟨0,0,0,0,IK,false,false⟩,false,[],true⟩ a ⟨d.1,false,[],false⟩))) ((b (Arp d.2) 12).bind fun m=>cond m.1 ((c (Arp m.2) 2000).bind fun x=>(c (Arp x.2) 50).bind fun y=>NW b y.2 ⟨⟨0,0,0,0,IK,false,false⟩,false,[],true⟩ a ⟨d.1,true,[x.1,y.1],false⟩) (NW b m.2 ⟨⟨0,0,0,0,IK,false,false⟩,false,[],true⟩ a ⟨d.1,false,[],false⟩))) ((b (Arp d.2) 12).bind fun n=>cond n.1 ((c (Arp n.2) 2000).bind fun z=>(c (Arp z.2) 50).bind fun A=>NW b A.2 ⟨⟨0,0,0,0,IK,false,false⟩,false,[],true⟩ a ⟨d.1,true,[z.1,A.1],false⟩) (NW b n.2 ⟨⟨0,0,0,0,IK,false,false⟩,false,[],true⟩ a ⟨d.1,false,[],false⟩)))) ((L (Arp J) a.AX ⟨#[119]⟩).bind fun e=>cond (Avi (En (ArN a))) (cond (e.1.Au == 11) ((b (Arp e.2) 2).bind fun o=>cond o.1 ((c (Arp o.2) (En (ArN a))).bind fun g=>cond (AwE g.1 (En (ArN a))) ((b (Arp g.2) 12).bind fun p=>cond p.1 ((c (Arp p.2) 2000).bind fun B=>(c (Arp B.2) 50).bind fun C=>NW b C.2 ⟨⟨0,0,0,0,IK,false,false⟩,false,[],true⟩ a ⟨FAU e a g,true,[B.1,C.1],false⟩) (NW b p.2 ⟨⟨0,0,0,0,IK,false,false⟩,false,[],true⟩ a ⟨FAU e a g,false,[],false⟩)) none) ((b (Arp o.2) 12).bind fun q=>cond q.1 ((c (Arp q.2) 2000).bind fun D=>(c (Arp D.2) 50).bind fun E=>NW b E.2 ⟨⟨0,0,0,0,IK,false,false⟩,false,[],true⟩ a ⟨e.1,true,[D.1,E.1],false⟩) (NW b q.2 ⟨⟨0,0,0,0,IK,false,false⟩,false,[],true⟩ a ⟨e.1,false,[],false⟩))) ((b (Arp e.2) 12).bind fun r=>cond r.1 ((c (Arp r.2) 2000).bind fun F=>(c (Arp F.2) 50).bind fun G=>NW b G.2 ⟨⟨0,0,0,0,IK,false,false⟩,false,[],true⟩ a ⟨e.1,true,[F.1,G.1],false⟩) (NW b r.2 ⟨⟨0,0,0,0,IK,false,false⟩,false,[],true⟩ a ⟨e.1,false,[],false⟩))) ((b (Arp e.2) 12).bind fun s=>cond s.1 ((c (Arp s.2) 2000).bind fun H=>(c (Arp H.2) 50).bind fun I=>NW b I.2 ⟨⟨0,0,0,0,IK,false,false⟩,false,[],true⟩ a ⟨e.1,true,[H.1,I.1],false⟩) (NW b s.2 ⟨⟨0,0,0,0,IK,false,false⟩,false,[],true⟩ a ⟨e.1,false,[],false⟩))))
def sZ:YAg:=UAw Av4 KAj PD
def MBU:Awe:=BI u2 sZ Aff Afg [KAw,LBU,fM] Tryz.func59 UAw [0, 64]
def VAw:Qj:=fun a b c=>mk (cond (Av2 ((0+a.Bq.length)*8)) (cond (NV a.Bq) (cond (Avw (0+(ArN a).length)) (cond (AqV (ArN a)) (some ⟨a.AX,a.Bq++[b],(ArN a)++[c],a.Cm,a.CO⟩) none) none) none) none)
def Vb:Qj:=VAw
def WAw:Awe:=BI u3 Vb AVO VB [] Tryz.func78 VAw [0]
def YBD:eP:=fun a b=>some ([],a,b)
def rJ:eP:=YBD
def EAW:Awe:=BI u2 rJ AKr Oh [] Tryz.func182 YBD
def XAw:Qc:=fun a=>mk (cond (WV a) (some (w8 (Ad (48+a)))) (some (w8 (Ad ((Ad (97+a)) - 10)))))
def LAj:Qc:=XAw
def NBU:Awe:=BI u1 LAj FN Afh [] Tryz.func240 XAw
inductive FAW where
 |c0 (a:Int) (b:Bool) (d:AA)
def OBU:FAW->Avy
 |.c0 a b d=>(tdo Tryz.f184 992,[vi 0 a,vb 3 b,vs 4 d],[])
def YAw (b:Qc) (k:Aw7 FAW AA):Bl:=fun a=>mk (cond (Aq6 a) (some ⟨#[48]⟩) (k (.c0 a (Av8 a) IK)))
def ZAw (a:Qc) (k:Aw7 FAW AA):Aw7 FAW AA
 |.c0 c e b=>mk (cond (c != 0) (cond (Av8 (c.tmod 10)) ((a (Ad (0 - (c.tmod 10)))).bind fun d=>cond (KZ (ofBytes [d]) b) (k (.c0 (Ad (c.tdiv 10)) e ((ofBytes [d])++b))) none) ((a (c.tmod 10)).bind fun f=>cond (KZ (ofBytes [f]) b) (k (.c0 (Ad (c.tdiv 10)) e ((ofBytes [f])++b))) none)) (cond e (Arm (KZ (Ap1 ⟨#[45]⟩) b) (some ((Ap1 ⟨#[45]⟩)++b))) (some b)))
def yJ:AzH FAW AA
 |0,_=>none
 |m+1,s=>ZAw LAj (yJ m) s
def iG:Bl:=YAw LAj (yJ AY)
def ZBD:Awe:=fy u1 iG FN Cc [NBU] Tryz.func184 OBU ZAw YAw yJ
def AYx:eU:=fun a b=>some (a,0,b)
def rM:eU:=AYx
def HAW:Awe:=BI u2 rM Afi Oh [] Tryz.func183 AYx
inductive IAW where
 |c0 (a b:Int) (d:Ap)
def PBU:IAW->Avy
 |.c0 b d a=>(tdo Tryz.f185 208,[vi 1 b,vp 2 128,vi 5 d],[(128,.var [.str a.BO,.bool a.CZ,.BG 90 a.Bc.Ak,.str a.AU.Bv,li a.AU.DU,.BG 76 a.AU.AZ,li a.AU.BM,.str a.AU.Dh,li a.AU.fCount,.BG 127 a.BP,.BG 157 a.BD,li a.CW])])
def AJW (k:Aw7 IAW Int):JC:=fun b a=>k (.c0 a 0 b)
def MAj (k:Aw7 IAW Int):Aw7 IAW Int
 |.c0 c a b=>mk (cond (Gm a (Fe b)) (cond (AwI a (Fe b)) (cond ((Ap7 (Es b) a ⟨0,false⟩).fId == c) (some a) (k (.c0 c (ArO a) b))) none) AwO)
def iC:AzH IAW Int
 |0,_=>none
 |m+1,s=>MAj (iC m) s
def NAj:JC:=AJW (iC AY)
def QBU:Awe:=fy u2 NAj wU FN [] Tryz.func185 PBU MAj AJW iC
def BAx (d:eP) (e:CG) (c:eU):Jl:=fun a f=>mk (cond ((Aqa a) == 3) (Ia (d 3 ⟨#[108,111,99,107,101,100]⟩)) ((e f.fText).bind fun b=>cond (Avd b (DX a).Bv) (cond (Aq6 (Aqa a)) (Ia (c [] IK)) (Ia (c [⟨2,IK,0,⟨0,0,false,false,false,false,IK,0⟩⟩] IK))) (some ([⟨2,IK,ArO (Aqa a),⟨0,0,false,false,false,false,IK,0⟩⟩],4,⟨#[119,111,114,100]⟩))))
def OAj:Jl:=BAx rJ JB rM
def RBU:Awe:=BI u2 OAj bM Oh [EAW,P7,HAW] Tryz.func186 BAx
def CAx (d:CG):qQ:=fun a b=>mk (cond (a == 1) ((d b).bind fun c=>some (⟨0,a,true,false,false,true,c,0⟩,true)) (cond (a == 2) ((d b).bind fun e=>some (⟨0,a,true,false,true,false,e,0⟩,true)) (cond (a == 3) (cond ((TT b)<=100) (some (⟨0,a,false,false,false,false,b,0⟩,true)) (some (⟨0,0,false,false,false,false,IK,0⟩,false))) (some (⟨0,0,false,false,false,false,IK,0⟩,false)))))
def PAj:qQ:=CAx JB
def SBU:Awe:=BI u2 PAj AKr Yb [P7] Tryz.func187 CAx
def BBE:YAT:=fun a=>mk (some [⟨3,IK,0,a⟩])
def QAj:YAT:=BBE
def DAx:Awe:=BI u1 QAj S9 Afj [] Tryz.func241 BBE
def EAx (g:eP) (c:YAT) (d:Bl) (e:eU):Yz:=fun b f a q=>mk (cond (!q) (Ia (g 6 NAU)) (cond ((Lu (DX b)) == 8) (Ia (g 1 fE)) (cond ((Aqk b) == 1000) (Ia (g 1 fE)) (cond (AqD a) (cond (FK a) ((c ⟨AqI b,a.Aj,true,true,Me a,ArU a,Td a,a.fNext⟩).bind fun h=>(d (AqI b)).bind fun i=>Ia (e h i)) ((c ⟨AqI b,a.Aj,true,f.CX,Me a,ArU a,Td a,a.fNext⟩).bind fun j=>(d (AqI b)).bind fun l=>Ia (e j l))) (cond (FK a) ((c ⟨AqI b,a.Aj,f.CY,true,Me a,ArU a,Td a,a.fNext⟩).bind fun m=>(d (AqI b)).bind fun n=>Ia (e m n)) ((c ⟨AqI b,a.Aj,f.CY,f.CX,Me a,ArU a,Td a,a.fNext⟩).bind fun o=>(d (AqI b)).bind fun p=>Ia (e o p)))))))
def su:Yz:=EAx rJ QAj iG rM
def CBE:Awe:=BI u4 su AVP Oh [EAW,DAx,ZBD,HAW] Tryz.func188 EAx
def FAx:FAt:=fun a b=>mk (some (Avd a b))
def GAx:FAt:=FAx
def TBU:Awe:=BI u2 GAx KJ E8 [] Tryz.func203 FAx
def HAx (h:Yu) (i:Yv) (j:FAt) (l:MQ):Tn:=fun c d a=>mk (cond ((TT a)<16) (Ar2 (IK,false)) (AqO (RAU a) ((h c d (TT (ZH a))).bind fun b=>cond (!b.2) (Ar2 (IK,false)) ((i c d (ZH a)).bind fun e=>AqO (GK (TT (ZH a)) (TT a)) ((j e (AwX a (TT (ZH a)))).bind fun f=>cond (!f) (Ar2 (IK,false)) ((l (ZH a) b.1).bind fun g=>Ar2 (g,true)))))))
def iH:Tn:=HAx zI zK GAx zJ
def DBE:Awe:=BI u3 iH VA IQ [OBD,QBD,TBU,PBD] Tryz.func141 HAx
inductive KAW where
 |c0 (a:AA) (b d:Int) (e f:Int)
def UBU:KAW->Avy
 |.c0 a b d e f=>(tdo Tryz.f201 2000,[vs 0 a,vi 1 b,vi 7 d,vi 8 e,vi 9 f],[])
def zV (d:AqW) (e:Bl) (k:Aw7 KAW (Int×Int×Bool)):Qo:=fun c a=>mk ((d a 0 (TT c)).bind fun b=>cond (!b) (some (0,0,false)) (k (.c0 c a 0 1 a)))
def RAj (a:AqW) (b:Bl) (k:Aw7 KAW (Int×Int×Bool)):Aw7 KAW (Int×Int×Bool)
 |.c0 d f g e c=>mk (cond (Aqt c (TT d)) (cond (Aqt c (Ad (f+5))) (cond (AwE c (TT d)) (cond (AwE c (TT d)) (cond ((bt d c)<128) (cond ((Fb g (Ad (((Qk d c).tmod 128)*e))) > 1000000000) (some (0,0,false)) ((b (Fb g (Ad (((Qk d c).tmod 128)*e)))).bind fun h=>cond (Ll f (ArO c) (TT d)) (cond (!(Avd h (d.extract (BN f) (Oo c)))) (some (0,0,false)) (some (Fb g (Ad (((Qk d c).tmod 128)*e)),ArO c,true))) none)) (k (.c0 d f (Fb g (Ad (((Qk d c).tmod 128)*e))) (Ad (e*128)) (ArO c)))) none) none) (some (0,0,false))) (some (0,0,false)))
def Avf:AzH KAW (Int×Int×Bool)
 |0,_=>none
 |m+1,s=>RAj Arz Qg (Avf m) s
def RH:Qo:=zV Arz Qg (Avf AY)
def IAx:Awe:=fy u2 RH Q9 AVQ [JV,ZL] Tryz.func201 UBU RAj zV Avf
def JAx (f:Tn) (g:Qo) (h:Avk):Avk:=fun d e=>mk ((f d 0 e).bind fun b=>(g b.1 0).bind fun a=>cond (!b.2) (Ar2 (IK,false)) (cond (!a.2.2) (Ar2 (IK,false)) (cond (Qs a.1 (AwZ (TT b.1) a.2.1)) (Ar2 (IK,false)) (AqO (Ll a.2.1 (Fb a.2.1 a.1) (TT b.1)) ((h d (JE b.1 a.2.1 (a.2.1+a.1))).bind fun c=>cond (!c.2) (Ar2 (IK,false)) (cond (!(Avd c.1 e)) (Ar2 (IK,false)) (Ar2 (JE b.1 a.2.1 (a.2.1+a.1),true))))))))
def SAj:Avk:=JAx iH RH bf
def VBU:Awe:=BI u2 SAj KJ IQ [DBE,IAx,SAw] Tryz.func242 JAx
def TAj (c:Qo):Y0:=fun a=>(c a.fText a.ER).bind fun b=>cond a.I7 (some (0,⟨a.fText,a.ER,true⟩)) (cond (!b.2.2) (some (0,⟨a.fText,a.ER,true⟩)) (some (b.1,⟨a.fText,b.2.1,a.I7⟩)))
def Ym:Y0:=TAj RH
def KAx:Awe:=BI u1 Ym AKs AVR [IAx] Tryz.func208 TAj [0]
def UAj:ZAT:=fun a b=>mk (cond a.I7 (some (IK,⟨a.fText,a.ER,true⟩)) (cond (Qs b (AwZ (TT a.fText) a.ER)) (some (IK,⟨a.fText,a.ER,true⟩)) (cond (Ll (AwZ (Fb a.ER b) b) (Fb a.ER b) (TT a.fText)) (some (U0 a.fText ((Fb a.ER b) - b) (a.ER+b),⟨a.fText,Fb a.ER b,a.I7⟩)) none)))
def U3:ZAT:=UAj
def LAx:Awe:=BI u2 U3 Afk AVS [] Tryz.func207 UAj [0]
def VAj (b:ZAT):Y0:=fun c=>mk ((b c 1).bind fun a=>cond a.2.I7 (some (0,a.2)) (cond (RI DI (TT a.1)) (some (RS a.1,a.2)) none))
def SY:Y0:=VAj U3
def EBE:Awe:=BI u1 SY AKs AVR [LAx] Tryz.func206 VAj [0]
def WAj (c:Y0) (e:ZAT):GAt:=fun d=>(c d).bind fun a=>(e a.2 a.1).bind fun b=>some (b.1,b.2)
def pV:GAt:=WAj Ym U3
def WBU:Awe:=BI u1 pV AKs AVS [KAx,LAx] Tryz.func257 WAj [0]
def XAj (g i:Y0) (j:GAt) (l:Aqv):Y1:=fun h=>mk ((g ⟨h,0,false⟩).bind fun b=>(i b.2).bind fun c=>(i c.2).bind fun a=>(j a.2).bind fun d=>(g d.2).bind fun e=>(l ⟨b.1,c.1,OI a.1,OI (Nh a.1),OI (ZJ a.1),OI (Ad (Awf a.1)),d.1,e.1⟩).bind fun f=>cond e.2.I7 (some (⟨0,0,false,false,false,false,IK,0⟩,false)) (cond (!f.2) (some (⟨0,0,false,false,false,false,IK,0⟩,false)) (cond (!(Avd f.1 h)) (some (⟨0,0,false,false,false,false,IK,0⟩,false)) (some (⟨b.1,c.1,OI a.1,OI (Nh a.1),OI (ZJ a.1),OI (Ad (Awf a.1)),d.1,e.1⟩,true)))))
def V7:Y1:=XAj Ym SY pV Ye
def FBE:Awe:=BI u1 V7 Cc Yb [KAx,EBE,WBU,OAi] Tryz.func209 XAj
def GBE:qR:=fun a=>mk (some ⟨0,a.Aj,AqD a,FK a,false,ArU a,Td a,0⟩)
def MAx:qR:=GBE
def XBU:Awe:=BI u1 MAx S9 S9 [] Tryz.func243 GBE
def NAx (h:ArW) (i:Avk) (j:Y1) (l:qR) (g:Yz):Jl:=fun a c=>mk ((h a).bind fun f=>(i f c.fText).bind fun b=>(j b.1).bind fun d=>(l d.1).bind fun e=>cond b.2 (Ia (g a c e d.2)) (Ia (g a c e false)))
def YAj:Jl:=NAx bZ SAj V7 MAx su
def YBU:Awe:=BI u2 YAj bM Oh [QAw,VBU,FBE,XBU,CBE] Tryz.func189 NAx
def OAx (d:Arl):qU:=fun a b=>mk ((d a).bind fun c=>C9 (!c) (some false) (C9 (b == 1) (some (!(AqD a))) (C9 (b == 2) (C9 (!(FK a)) (some (a.Aj != 2)) (some false)) (C9 (b == 3) (some (Me a)) (C9 (b == 4) (some (ArU a)) (some (b == 5)))))))
def ZAj:qU:=OAx WL
def ZBU:Awe:=BI u2 ZAj AVT E8 [DAV] Tryz.func244 OAx
inductive NAW where
 |c0 (a:Int) (b:Ap) (d:Af)
def AlY:NAW->Avy
 |.c0 d a b=>(tdo Tryz.f193 208,[vp 2 128,vp 3 192,vi 5 d],[(128,.var [.str a.BO,.bool a.CZ,.BG 90 a.Bc.Ak,.str a.AU.Bv,li a.AU.DU,.BG 76 a.AU.AZ,li a.AU.BM,.str a.AU.Dh,li a.AU.fCount,.BG 127 a.BP,.BG 157 a.BD,li a.CW]),(192,.var [li b.fId,li b.Aj,.bool b.CY,.bool b.CX,.bool b.Gw,.bool b.GH,.str b.fValue,li b.fNext])])
def PAx (k:Aw7 NAW Int):ZAg:=fun a b=>k (.c0 0 a b)
def ADc (k:Aw7 NAW Int):Aw7 NAW Int
 |.c0 a b c=>mk (cond (Gm a (MI b)) (cond (AwI a (MI b)) (cond ((Pq (He b) a).fId == c.fId) (cond (AwI a (MI b)) (some (Pq (He b) a).fNext) none) (k (.c0 (ArO a) b c))) none) (some c.fNext))
def iK:AzH NAW Int
 |0,_=>none
 |m+1,s=>ADc (iK m) s
def tV:ZAg:=PAx (iK AY)
def HBE:Awe:=fy u2 tV Afl FN [] Tryz.func193 AlY ADc PAx iK
def QAx (c:Bl):U6:=fun b d=>mk ((c d).bind fun a=>Arm (KZ b a) (Arm (KZ (b++a) rH) (some ((b++a)++rH))))
def BAk:U6:=QAx Arq
def BBV:Awe:=BI u2 BAk Q9 Cc [XB] Tryz.func313 QAx
def RAx (b:CG):CG:=fun c=>mk ((b c).bind fun a=>Arm ((Avv DI LC) && (decide (4<=(TT a)))) (some (P5 a LC)))
def PG:CG:=RAx JB
def PAW:Awe:=BI u1 PG Cc Cc [P7] Tryz.func371 RAx
inductive QAW where
 |c0 (a:AA) (b d:Int) (e:(List AA))
def CBV:QAW->Avy
 |.c0 a b d e=>(tdo Tryz.f346 464,[vs 0 a,vi 1 b,vo 5 368,vi 6 d],[(368,.sl 9 e)])
def SAx (c:Bl) (d:CG) (k:Aw7 QAW (List AA)):ArV:=fun a b=>k (.c0 a b 0 [])
def CAk (a:Bl) (b:CG) (k:Aw7 QAW (List AA)):Aw7 QAW (List AA)
 |.c0 d h f g=>mk (cond (WV f) ((a h).bind fun c=>cond (KZ d c) ((a f).bind fun e=>cond (Gx d c e) (cond (KZ ((d++c)++e) (Ap1 ⟨#[111]⟩)) ((b (((d++c)++e)++(Ap1 ⟨#[111]⟩))).bind fun i=>cond (AqV g) (k (.c0 d h (ArO f) (g++[i]))) none) none) none) none) (some g))
def Zi:AzH QAW (List AA)
 |0,_=>none
 |m+1,s=>CAk Arq PG (Zi m) s
def iL:ArV:=SAx Arq PG (Zi AY)
def IBE:Awe:=fy u2 iL Q9 VD [XB,PAW] Tryz.func346 CBV CAk SAx Zi
inductive RAW where
 |c0 (a:AA) (b d:Int) (e f g:Int)
def DBV:RAW->Avy
 |.c0 a b d e f g=>(tdo Tryz.f370 208,[vs 0 a,vi 1 b,vi 2 d,vi 3 e,vi 4 f,vi 11 g],[])
def TAx (f:Bl) (g:CG) (k:Aw7 RAW AA):Aqf:=fun a b c d e=>k (.c0 a b c d e 0)
def DAk (a:Bl) (b:CG) (k:Aw7 RAW AA):Aw7 RAW AA
 |.c0 g i j l h e=>mk (cond (Aqt e h) (cond (e<15) ((a i).bind fun c=>(a j).bind fun d=>cond (KZ c d) ((a (Fb (l.tmod 256) e)).bind fun f=>cond (Gx c d f) (cond (Gx (c++d) f g) ((b (((c++d)++f)++g)).bind fun m=>k (.c0 m i j l h (ArO e))) none) none) none) (some g)) (some g))
def iM:AzH RAW AA
 |0,_=>none
 |m+1,s=>DAk Arq PG (iM m) s
def Zk:Aqf:=TAx Arq PG (iM AY)
def JBE:Awe:=fy u5 Zk AVU Cc [XB,PAW] Tryz.func370 DBV DAk TAx iM
inductive SAW where
 |c0 (a:(List AA)) (b:Int) (d:AA) (e:Int)
def EBV:SAW->Avy
 |.c0 a b d e=>(tdo Tryz.f368 976,[vr 0 9 a,vi 1 b,vs 5 d,vi 6 e],[])
def UAx (c:Aqf) (d:CG) (k:Aw7 SAW AA):Y2:=fun a b=>mk (cond ((En a) != 10) Rl (k (.c0 a b IK 0)))
def EAk (a:Aqf) (b:CG) (k:Aw7 SAW AA):Aw7 SAW AA
 |.c0 d g f c=>mk (cond (WV c) (cond (OL c d) ((a (Tf d c IK) g c 0 15).bind fun e=>cond (KZ f e) (k (.c0 d g (f++e) (ArO c))) none) none) (Ap2 (b f)))
def iO:AzH SAW AA
 |0,_=>none
 |m+1,s=>EAk Zk PG (iO m) s
def tY:Y2:=UAx Zk PG (iO AY)
def FBV:Awe:=fy u2 tY wV Cc [JBE,PAW] Tryz.func368 EBV EAk UAx iO
inductive UAW where
 |c0 (a:AA) (b:Int) (d:(List AA))
def GBV:UAW->Avy
 |.c0 a b d=>(tdo Tryz.f344 464,[vs 0 a,vo 3 240,vi 4 b],[(240,.sl 9 d)])
def VAx (b:ArV) (c:Y2) (k:Aw7 UAW (List AA)):Y3:=fun a=>k (.c0 a 0 [])
def FAk (a:ArV) (b:Y2) (k:Aw7 UAW (List AA)):Aw7 UAW (List AA)
 |.c0 f c d=>mk (cond (c<4) ((a f c).bind fun e=>(b e c).bind fun g=>cond (AqV d) (k (.c0 f (ArO c) (d++[g]))) none) (some d))
def iQ:AzH UAW (List AA)
 |0,_=>none
 |m+1,s=>FAk iL tY (iQ m) s
def tq:Y3:=VAx iL tY (iQ AY)
def KBE:Awe:=fy u1 tq Cc VD [IBE,FBV] Tryz.func344 GBV FAk VAx iQ
def WAx (e:Bl) (h:CG):Y4:=fun f g c d=>mk ((e f).bind fun a=>(e g).bind fun b=>Arm (KZ a b) (Arm (Gx a b c) (Arm (Gx (a++b) c d) (Arm (KZ (((a++b)++c)++d) (Ap1 ⟨#[110]⟩)) (Ap2 (h ((((a++b)++c)++d)++(Ap1 ⟨#[110]⟩))))))))
def Xi:Y4:=WAx Arq PG
def HBV:Awe:=BI u4 Xi AVV Cc [XB,PAW] Tryz.func381 WAx
inductive WAW where
 |c0 (a:Int) (b:(List AA)) (d:Int) (e:(List AA))
def IBV:WAW->Avy
 |.c0 a b d e=>(tdo Tryz.f367 464,[vi 0 a,vr 1 9 b,vo 5 368,vi 6 d],[(368,.sl 9 e)])
def GAk (c:Y4) (k:Aw7 WAW (List AA)):Rf:=fun a b=>k (.c0 a b 0 [])
def uF (a:Y4) (k:Aw7 WAW (List AA)):Aw7 WAW (List AA)
 |.c0 f c b d=>mk (cond (Aqt (AwU b) (En c)) (cond (AwE (Ad (2*b)) (En c)) (cond (AwE (AwU b) (En c)) ((a f b (c.getD (Aqq (2*b)) (Ap1 IK)) (Tf c (AwU b) IK)).bind fun e=>cond (AqV d) (k (.c0 f c (ArO b) (d++[e]))) none) none) none) (some d))
def Xj:AzH WAW (List AA)
 |0,_=>none
 |m+1,s=>uF Xi (Xj m) s
def Vg:Rf:=GAk Xi (Xj AY)
def LBE:Awe:=fy u2 Vg AVW VD [HBV] Tryz.func367 IBV uF GAk Xj
inductive YAW where
 |c0 (a:(List AA)) (b:Int)
 |c1 (b:Int) (a:(List AA))
def JBV:YAW->Avy
 |.c0 a b=>(tdo Tryz.f343 464,[vr 0 9 a,vi 3 b],[])
 |.c1 b a=>(tdo Tryz.f343 464,[vo 0 48,vi 3 b],[(48,.sl 9 a)])
def XAx (b:Rf) (k:Aw7 YAW AA):qV:=fun a=>mk (cond ((En a) != 4) Rl (k (.c0 a 1)))
def HAk (a:Rf) (k:Aw7 YAW AA):Aw7 YAW AA
 |.c0 d b=>mk (cond (b<=2) ((a b d).bind fun c=>k (.c1 (ArO b) c)) (QAU d))
 |.c1 b d=>mk (cond (b<=2) ((a b d).bind fun c=>k (.c1 (ArO b) c)) (QAU d))
def iR:AzH YAW AA
 |0,_=>none
 |m+1,s=>HAk Vg (iR m) s
def IAk:qV:=XAx Vg (iR AY)
def KBV:Awe:=fy u1 IAk AVX Cc [LBE] Tryz.func343 JBV HAk XAx iR
def YAx (b:Y3) (d:qV):CG:=fun c=>mk ((b c).bind fun a=>Ap2 (d a))
def uG:CG:=YAx tq IAk
def MBE:Awe:=BI u1 uG Cc Cc [KBE,KBV] Tryz.func314 YAx
inductive iU where
 |c0 (a:AA) (b d:Int) (e:(List Int))
def LBV:iU->Avy
 |.c0 a b d e=>(tdo Tryz.f369 2000,[vs 3 a,vo 4 304,vi 5 b,vi 6 d],[(304,.sl 3 e)])
def ZAx (b:CG) (k:Aw7 iU (List Int)):Hw:=fun c=>(b c).bind fun a=>k (.c0 a 0 0 [])
def JAk (a:CG) (k:Aw7 iU (List Int)):Aw7 iU (List Int)
 |.c0 c e b d=>mk (cond (b<4) (cond (AwE b (TT c)) (cond (AwE b (TT c)) (cond (Av2 ((d.length+2)*8)) (cond (AwE b (TT c)) (cond (AwE b (TT c)) (k (.c0 c (AwZ (AwZ (Ad (e+30)) (fJ (Qk c b))) ((Qk c b).tmod 16)) (ArO b) (d++[fJ (Qk c b),(Qk c b).tmod 16]))) none) none) none) none) none) (AwM (Av2 ((d.length+2)*8)) (Ej (d++[fJ e,e.tmod 16]))))
def Zn:AzH iU (List Int)
 |0,_=>none
 |m+1,s=>JAk PG (Zn m) s
def uH:Hw:=ZAx PG (Zn AY)
def MBV:Awe:=fy u1 uH Cc JZ [PAW] Tryz.func369 LBV JAk ZAx Zn
inductive iV where
 |c0 (a:(List AA)) (b d:Int) (e:(List AA)) (f:(List Int))
def NBV:iV->Avy
 |.c0 a b d e f=>(tdo Tryz.f345 2000,[vr 0 9 a,vi 1 b,vo 7 496,vo 8 560,vi 9 d],[(496,.sl 9 e),(560,.sl 3 f)])
def AJx (c:Hw) (f:Aqf) (k:Aw7 iV (List AA)):qW:=fun a e d=>mk (cond ((En a) != 10) (some []) ((c d).bind fun b=>k (.c0 a e 0 [] b)))
def BAy (a:Hw) (b:Aqf) (k:Aw7 iV (List AA)):Aw7 iV (List AA)
 |.c0 d h c f e=>mk (cond (WV c) (cond (OL c d) (cond (Dt c e) ((b (Tf d c IK) h c 0 (GZ e c)).bind fun g=>cond (AqV f) (k (.c0 d h (ArO c) (f++[g]) e)) none) none) none) (some f))
def uK:AzH iV (List AA)
 |0,_=>none
 |m+1,s=>BAy uH Zk (uK m) s
def KAk:qW:=AJx uH Zk (uK AY)
def OBV:Awe:=fy u3 KAk AVY VD [MBV,JBE] Tryz.func345 NBV BAy AJx uK
inductive CAX where
 |c0 (a:(List AA)) (b d:Int) (e:(List AA))
 |c1 (b d:Int) (a e:(List AA))
def PBV:CAX->Avy
 |.c0 a b d e=>(tdo Tryz.f347 976,[vr 0 9 a,vi 1 b,vo 5 368,vi 6 d],[(368,.sl 9 e)])
 |.c1 b d a e=>(tdo Tryz.f347 976,[vo 0 48,vi 1 b,vo 5 368,vi 6 d],[(48,.sl 9 a),(368,.sl 9 e)])
def CAy (d:AqW) (e:Rf) (k:Aw7 CAX (List AA)):qX:=fun a c=>mk (cond ((En a) != 4) (some []) ((d c 0 3).bind fun b=>cond (!b) (some []) (k (.c0 a c 1 []))))
def LAk (a:AqW) (b:Rf) (k:Aw7 CAX (List AA)):Aw7 CAX (List AA)
 |.c0 d c e f=>mk (cond (e<=2) (cond (OI c) (cond (AwE (Lr c) (En d)) (cond (AqV f) ((b e d).bind fun g=>k (.c1 (Nh c) (ArO e) g (f++[d.getD (Aqq (c - 1)) (Ap1 IK)]))) none) none) (cond (AwE (ArO c) (En d)) (cond (AqV f) ((b e d).bind fun h=>k (.c1 (Nh c) (ArO e) h (f++[Tf d (ArO c) IK]))) none) none)) (some f))
 |.c1 c e d f=>mk (cond (e<=2) (cond (OI c) (cond (AwE (Lr c) (En d)) (cond (AqV f) ((b e d).bind fun g=>k (.c1 (Nh c) (ArO e) g (f++[d.getD (Aqq (c - 1)) (Ap1 IK)]))) none) none) (cond (AwE (ArO c) (En d)) (cond (AqV f) ((b e d).bind fun h=>k (.c1 (Nh c) (ArO e) h (f++[Tf d (ArO c) IK]))) none) none)) (some f))
def uM:AzH CAX (List AA)
 |0,_=>none
 |m+1,s=>LAk Arz Vg (uM m) s
def MAk:qX:=CAy Arz Vg (uM AY)
def QBV:Awe:=fy u2 MAk wV VD [JV,LBE] Tryz.func347 PBV LAk CAy uM
def DAy (h:AqW) (i:ArV) (j:qW) (m:Y3) (n:qX):qY:=fun d a l=>mk ((h a 0 3).bind fun b=>cond (!b) (some (Avj,false)) ((i d a).bind fun c=>(j c a l).bind fun e=>(m d).bind fun f=>(n f a).bind fun g=>some (⟨a,e,g⟩,true)))
def uN:qY:=DAy Arz iL KAk tq MAk
def RBV:Awe:=BI u3 uN VA AVZ [JV,IBE,OBV,KBE,QBV] Tryz.func315 DAy
def EAy (i:AqW) (j:U6) (l:CG) (g:qY):qZ:=fun c a m=>mk ((i a 0 15).bind fun e=>cond (!e) (some (⟨Avj,IK,Avj⟩,false)) ((j c (ZJ a)).bind fun b=>(l b).bind fun d=>(g b (a.tmod 4) m).bind fun f=>cond (KZ c AsI) ((g (c++AsI) (ZJ a) d).bind fun h=>some (⟨h.1,d,f.1⟩,true)) none))
def NAk:qZ:=EAy Arz BAk uG uN
def SBV:Awe:=BI u3 NAk VA AVa [JV,BBV,MBE,RBV] Tryz.func275 EAy
inductive Zq where
 |c0 (b:Int) (a:IL)
 |c1 (d:Int) (a:IL)
def TBV:Zq->Avy
 |.c0 b a=>(tdo Tryz.f38 464,[vp 1 64,vi 3 b],[(64,.var [li a.Dv,.BG 9 a.Fg,.BG 9 a.Gn])])
 |.c1 d a=>(tdo Tryz.f38 976,[vp 1 64,vi 4 d],[(64,.var [li a.Dv,.BG 9 a.Fg,.BG 9 a.Gn])])
def FAy (c:AqW) (k:Aw7 Zq Bool):XI:=fun a=>mk ((c a.Dv 0 3).bind fun b=>cond (!b) (some false) (cond ((En a.Fg) != 10) (some false) (cond ((En a.Gn) != 2) (some false) (k (.c0 0 a)))))
def uQ (a:AqW) (k:Aw7 Zq Bool):Aw7 Zq Bool
 |.c0 c b=>mk (cond (Aqt c (En b.Fg)) (cond (OL c b.Fg) (cond ((TT (Tf b.Fg c IK)) != 4) (some false) (k (.c0 (ArO c) b))) none) (k (.c1 0 b)))
 |.c1 b c=>mk (cond (Aqt b (En c.Gn)) (cond (OL b c.Gn) (cond ((TT (Tf c.Gn b IK)) != 4) (some false) (k (.c1 (ArO b) c))) none) (some true))
def Vh:AzH Zq Bool
 |0,_=>none
 |m+1,s=>uQ Arz (Vh m) s
def ig:XI:=FAy Arz (Vh AY)
def NBE:Awe:=fy u1 ig AEo E8 [JV] Tryz.func38 TBV uQ FAy Vh
inductive Zr where
 |c0 (a:AA) (d:Int) (b:IL)
 |c1 (a:AA) (e:Int) (b:IL)
def UBV:Zr->Avy
 |.c0 b d a=>(tdo Tryz.f316 976,[vp 1 64,vs 4 b,vi 5 d],[(64,.var [li a.Dv,.BG 9 a.Fg,.BG 9 a.Gn])])
 |.c1 b e a=>(tdo Tryz.f316 2000,[vp 1 64,vs 4 b,vi 6 e],[(64,.var [li a.Dv,.BG 9 a.Fg,.BG 9 a.Gn])])
def GAy (d:XI) (e:Bl) (k:Aw7 Zr (AA×Bool)):qc:=fun a=>mk ((d a).bind fun b=>cond (!b) (Ar2 (IK,false)) ((e a.Dv).bind fun c=>k (.c0 c 0 a)))
def iq (a:XI) (b:Bl) (k:Aw7 Zr (AA×Bool)):Aw7 Zr (AA×Bool)
 |.c0 e c d=>mk (cond (WV c) (cond (OL c d.Fg) (cond (KZ e (Tf d.Fg c IK)) (k (.c0 (e++(Tf d.Fg c IK)) (ArO c) d)) none) none) (k (.c1 e 0 d)))
 |.c1 e c d=>mk (cond (Aqn c) (cond (OL c d.Gn) (cond (KZ e (Tf d.Gn c IK)) (k (.c1 (e++(Tf d.Gn c IK)) (ArO c) d)) none) none) (Ar2 (e,true)))
def UK:AzH Zr (AA×Bool)
 |0,_=>none
 |m+1,s=>iq ig Arq (UK m) s
def OAk:qc:=GAy ig Arq (UK AY)
def VBV:Awe:=fy u1 OAk AEo IQ [NBE,XB] Tryz.func316 UBV iq GAy UK
def HAy (d:qc):qg:=fun a=>mk ((d a.QU).bind fun b=>(d a.QV).bind fun c=>cond (!b.2) (Ar2 (IK,false)) (cond (!c.2) (Ar2 (IK,false)) (cond ((TT a.QS) != 4) (Ar2 (IK,false)) (AqO (KZ b.1 a.QS) (AqO (KZ (b.1++a.QS) c.1) (Ar2 ((b.1++a.QS)++c.1,true)))))))
def PAk:qg:=HAy OAk
def WBV:Awe:=BI u1 PAk AVb IQ [VBV] Tryz.func276 HAy
def IAy (i:ZAg) (l:eP) (m:qZ) (o:qg) (g:YAT) (d:eU):Rh:=fun j n a=>mk ((i j a).bind fun b=>cond (b == 16) (Ia (l 1 fE)) ((m (Td a) b n.fText).bind fun e=>(o e.1).bind fun c=>cond (b == a.fNext) (cond ((Ad (a.fNext+3)) > 16) ((g ⟨a.fId,a.Aj,AqD a,FK a,Me a,ArU a,Td a,16⟩).bind fun f=>Ia (d f c.1)) ((g ⟨a.fId,a.Aj,AqD a,FK a,Me a,ArU a,Td a,Ad (a.fNext+3)⟩).bind fun h=>Ia (d h c.1))) (Ia (d [] c.1))))
def QAk:Rh:=IAy tV rJ NAk PAk QAj rM
def XBV:Awe:=BI u3 QAk AEp Oh [HBE,EAW,SBV,WBV,DAx,HAW] Tryz.func245 IAy
inductive GAX where
 |c0 (a:AA) (b:Int) (d:(List Int))
 |c1 (a:AA) (b e f:Int) (d:(List Int))
def YBV:GAX->Avy
 |.c0 a b d=>(tdo Tryz.f382 464,[vs 0 a,vo 3 240,vi 4 b],[(240,.sl 274 d)])
 |.c1 a b e f d=>(tdo Tryz.f382 119376,[vs 0 a,vo 3 240,vi 4 b,(5,[.one (.int .u64 e)]),vi 6 f],[(240,.sl 274 d)])
def JAy (k:Aw7 GAX (List Int)):Hw:=fun a=>k (.c0 a 0 [])
def uT (k:Aw7 GAX (List Int)):Aw7 GAX (List Int)
 |.c0 b a c=>mk (cond (Avv (Ad (a+8)) (TT b)) (k (.c1 b a 0 7 c)) (Ej c))
 |.c1 c b e a d=>mk (cond (JD a) (cond (AwE (Fb b a) (TT c)) (k (.c1 c b (Eb ((Eb (e*256))+(Eb (bt c (Fb b a))))) (Lr a) d)) none) (cond (NV d) (k (.c0 c (Ad (b+8)) (d++[e]))) none))
def Xl:AzH GAX (List Int)
 |0,_=>none
 |m+1,s=>uT (Xl m) s
def iw:Hw:=JAy (Xl AY)
def OBE:Awe:=fy u1 iw Cc wW [] Tryz.func382 YBV uT JAy Xl
inductive IAX where
 |c0 (a b d:Int) (e:(List Int))
def ZBV:IAX->Avy
 |.c0 a b d e=>(tdo Tryz.f387 2000,[vo 1 112,vi 2 a,vi 3 b,vi 4 d],[(112,.sl 3 e)])
def PBE (k:Aw7 IAX (List Int)):Aqy:=mk (k (.c0 1 0 0 (Arv (25:Int))))
def QBE (k:Aw7 IAX (List Int)):Aw7 IAX (List Int)
 |.c0 c b a d=>mk (cond (a<24) (cond (EZ (Aqd c b) d) (k (.c0 b (fK c b) (ArO a) (d.set (Aqq (Aqd c b)) ((Nh (Ad ((ArO a)*(Ad (a+2))))).tmod 64)))) none) (Ej d))
def KAy:AzH IAX (List Int)
 |0,_=>none
 |m+1,s=>QBE (KAy m) s
def RAk:Aqy:=PBE (KAy AY)
def Al2:Awe:=fy u0 RAk Yc JZ [] Tryz.func387 ZBV QBE PBE KAy
inductive JAX where
 |c0 (a b:Int) (d:(List Int))
 |c1 (a b:Int) (e f g:Int) (d:(List Int))
def BBW:JAX->Avy
 |.c0 a b d=>(tdo Tryz.f388 976,[vo 1 112,vi 2 a,vi 3 b],[(112,.sl 274 d)])
 |.c1 a b e f g d=>(tdo Tryz.f388 500944,[vo 1 112,vi 2 a,vi 3 b,(4,[.one (.int .u64 e)]),(5,[.one (.int .u64 f)]),vi 6 g],[(112,.sl 274 d)])
def LAy (k:Aw7 JAX (List Int)):Aqy:=k (.c0 1 0 [])
def RBE (k:Aw7 JAX (List Int)):Aw7 JAX (List Int)
 |.c0 c a b=>mk (cond (a<24) (k (.c1 c a 0 1 0 b)) (Ej b))
 |.c1 b e f a d c=>mk (cond (d<7) (cond (OI b) (cond ((Ad (b*2))>=256) (k (.c1 (XAh ((Ad (b*2)) - 256)) e (Eb (f+a)) (Eb ((Eb (a*a))*2)) (ArO d) c)) (k (.c1 (Ad (b*2)) e (Eb (f+a)) (Eb ((Eb (a*a))*2)) (ArO d) c))) (cond ((Ad (b*2))>=256) (k (.c1 (XAh ((Ad (b*2)) - 256)) e f (Eb ((Eb (a*a))*2)) (ArO d) c)) (k (.c1 (Ad (b*2)) e f (Eb ((Eb (a*a))*2)) (ArO d) c)))) (cond (NV c) (k (.c0 b (ArO e) (c++[f]))) none))
def MAy:AzH JAX (List Int)
 |0,_=>none
 |m+1,s=>RBE (MAy m) s
def uV:Aqy:=LAy (MAy AY)
def CBW:Awe:=fy u0 uV Yc wW [] Tryz.func388 BBW RBE LAy MAy
inductive LAX where
 |c0 (a b:Int) (d e:Int)
def DBW:LAX->Avy
 |.c0 a b d e=>(tdo Tryz.f390 464,[(0,[.one (.int .u64 a)]),vi 1 b,(5,[.one (.int .u64 d)]),vi 6 e],[])
def NAy (k:Aw7 LAX Int):FX:=fun a b=>k (.c0 a b 1 0)
def SAk (k:Aw7 LAX Int):Aw7 LAX Int
 |.c0 b c a d=>mk (cond (Aqt d c) (k (.c0 b c (Eb (a*2)) (ArO d))) (cond (Aq6 c) (some b) (cond (!(Aq6 a)) (cond (!(Aq6 (Eb ((Eb ((9223372036854775808:Int).tdiv a))*2)))) (some (Eb ((Eb (b*a))+(Eb (b.tdiv (Eb ((Eb ((9223372036854775808:Int).tdiv a))*2))))))) none) none)))
def jA:AzH LAX Int
 |0,_=>none
 |m+1,s=>SAk (jA m) s
def iy:FX:=NAy (jA AY)
def EBW:Awe:=fy u2 iy AVc wX [] Tryz.func390 DBW SAk NAy jA
inductive MAX where
 |c0 (d e:(List Int)) (a j:Int) (f:(List Int))
 |c1 (d e:(List Int)) (a g:Int) (f b:(List Int))
 |c2 (d e:(List Int)) (a g:Int) (l n:Int) (f b:(List Int))
 |c3 (a h:Int) (b i:(List Int))
 |c4 (a h o:Int) (b i:(List Int))
def FBW:MAX->Avy
 |.c0 d e a j f=>(tdo Tryz.f389 464,[vr 0 274 d,vr 1 3 e,(2,[.one (.int .u64 a)]),vo 7 496,vi 8 j],[(496,.sl 274 f)])
 |.c1 d e a g f b=>(tdo Tryz.f389 2000,[vr 0 274 d,vr 1 3 e,(2,[.one (.int .u64 a)]),vo 7 496,vo 9 624,vi 10 g],[(496,.sl 274 f),(624,.sl 274 b)])
 |.c2 d e a g l n f b=>(tdo Tryz.f389 256304,[vr 0 274 d,vr 1 3 e,(2,[.one (.int .u64 a)]),vo 7 496,vo 9 624,vi 10 g,(11,[.one (.int .u64 l)]),vi 12 n],[(496,.sl 274 f),(624,.sl 274 b)])
 |.c3 a h b i=>(tdo Tryz.f389 8144,[(2,[.one (.int .u64 a)]),vo 9 624,vo 13 880,vi 14 h],[(624,.sl 274 b),(880,.sl 274 i)])
 |.c4 a h o b i=>(tdo Tryz.f389 521360,[(2,[.one (.int .u64 a)]),vo 9 624,vo 13 880,vi 14 h,vi 15 o],[(624,.sl 274 b),(880,.sl 274 i)])
def OAy (d:FX) (k:Aw7 MAX (List Int)):AH2:=fun a b c=>k (.c0 a b c 0 [0,0,0,0,0])
def Ry (a:FX) (k:Aw7 MAX (List Int)):Aw7 MAX (List Int)
 |.c0 c e f b d=>mk (cond (b<5) (cond (Dt b c) (cond (EZ (b+5) c) (cond (EZ (b+10) c) (cond (EZ (b+15) c) (cond (EZ (b+20) c) (cond (Dt b d) (k (.c0 c e f (ArO b) (d.set (BN b) (Eb (Ie AqE (Eb (Ie AqE (Eb (Ie AqE (Eb (Ie AqE (GZ c b) (Ld c (b+5)))) (Ld c (b+10)))) (Ld c (b+15)))) (Ld c (b+20))))))) none) none) none) none) none) none) (k (.c1 c e f 0 d (Arv (25:Int)))))
 |.c1 g h e b c f=>mk (cond (b<5) (cond (AwE (AqG (Ad (b+4))) (AsC c)) (cond (AwE (AqG (ArO b)) (AsC c)) ((a (GZ c (AqG (ArO b))) 1).bind fun d=>k (.c2 g h e b (Eb (Ie AqE (GZ c (AqG (Ad (b+4)))) d)) 0 c f)) none) none) (k (.c3 e 0 f (Arv (25:Int)))))
 |.c2 d e i c h b j f=>mk (cond (b<5) (cond (EZ (Aqd c b) d) (cond (EZ (Aqd c b) e) ((a (Eb (Ie AqE (Ld d (Aqd c b)) h)) (Ld e (Aqd c b))).bind fun g=>cond (EZ (Aqd b (fK c b)) f) (k (.c2 d e i c h (ArO b) j (f.set (Aqq (Aqd b (fK c b))) g))) none) none) none) (k (.c1 d e i (ArO c) j f)))
 |.c3 d c e b=>mk (cond (c<5) (k (.c4 d c 0 e b)) (AwM (AwG b) (AwM (AwG b) (Ej (b.set (BN DI) (Eb (Ie AqE (GZ b DI) d)))))))
 |.c4 f c b d e=>mk (cond (b<5) (cond (EZ (Aqd c b) d) (cond (EZ ((AqG (ArO c))+(Ad (5*b))) d) (cond (EZ ((AqG (Ad (c+2)))+(Ad (5*b))) d) (cond (EZ (Aqd c b) e) (k (.c4 f c (ArO b) d (e.set (Aqq (Aqd c b)) (Eb (Ie AqE (Ld d (Aqd c b)) (Eb (Avx AqE (Eb (18446744073709551615 - (Ld d ((AqG (ArO c))+(Ad (5*b)))))) (Ld d ((AqG (Ad (c+2)))+(Ad (5*b))))))))))) none) none) none) none) (k (.c3 f (ArO c) d e)))
def Avp:AzH MAX (List Int)
 |0,_=>none
 |m+1,s=>Ry iy (Avp m) s
def uX:AH2:=OAy iy (Avp AY)
def GBW:Awe:=fy u3 uX Afm wW [EBW] Tryz.func389 FBW Ry OAy Avp
inductive OAX where
 |c0 (a:Int) (b d e:(List Int))
def HBW:OAX->Avy
 |.c0 a b d e=>(tdo Tryz.f383 976,[vo 0 48,vo 3 240,vo 4 304,vi 5 a],[(48,.sl 274 b),(240,.sl 3 d),(304,.sl 274 e)])
def PAy (c d:Aqy) (f:AH2) (k:Aw7 OAX (List Int)):Aq1:=fun e=>c.bind fun a=>d.bind fun b=>k (.c0 0 e a b)
def QAy (a b:Aqy) (c:AH2) (k:Aw7 OAX (List Int)):Aw7 OAX (List Int)
 |.c0 d g h e=>mk (cond (d<24) (cond (Dt d e) ((c g h (GZ e d)).bind fun f=>k (.c0 (ArO d) f h e)) none) (Ej g))
def uf:AzH OAX (List Int)
 |0,_=>none
 |m+1,s=>QAy RAk uV uX (uf m) s
def jD:Aq1:=PAy RAk uV uX (uf AY)
def SBE:Awe:=fy u1 jD wW wW [Al2,CBW,GBW] Tryz.func383 HBW QAy PAy uf
inductive QAX where
 |c0 (a:(List Int)) (b:Int) (d:(List Int))
 |c1 (a:(List Int)) (b e f:Int) (d:(List Int))
def IBW:QAX->Avy
 |.c0 a b d=>(tdo Tryz.f384 464,[vr 0 274 a,vo 3 240,vi 4 b],[(240,.sl 5 d)])
 |.c1 a b e f d=>(tdo Tryz.f384 59696,[vr 0 274 a,vo 3 240,vi 4 b,(5,[.one (.int .u64 e)]),vi 6 f],[(240,.sl 5 d)])
def RAy (k:Aw7 QAX AA):Ic:=fun a=>k (.c0 a 0 [])
def jF (k:Aw7 QAX AA):Aw7 QAX AA
 |.c0 b a c=>mk (cond (Aqt a (AsC b)) (cond (Dt a b) (k (.c1 b a (GZ b a) 0 c)) none) (AsF c))
 |.c1 c d e b a=>mk (cond (b<8) (cond (Na a) (k (.c1 c d (Eb (e.tdiv 256)) (ArO b) (a++[w8 (e.tmod 256)]))) none) (k (.c0 c (ArO d) a)))
def Vk:AzH QAX AA
 |0,_=>none
 |m+1,s=>jF (Vk m) s
def jE:Ic:=RAy (Vk AY)
def TBE:Awe:=fy u1 jE Afn Cc [] Tryz.func384 IBW jF RAy Vk
inductive RAX where
 |c0 (a:Int) (b d:(List Int))
 |c1 (a e:Int) (b d:(List Int))
 |c2 (a e f:Int) (b d g:(List Int))
def JBW:RAX->Avy
 |.c0 a b d=>(tdo Tryz.f372 480,[vi 1 a,vo 7 496,vo 8 560],[(496,.sl 274 b),(560,.sl 5 d)])
 |.c1 a e b d=>(tdo Tryz.f372 4048,[vi 1 a,vo 7 496,vo 8 560,vi 9 e],[(496,.sl 274 b),(560,.sl 5 d)])
 |.c2 a e f b d g=>(tdo Tryz.f372 1036880,[vi 1 a,vo 7 496,vo 8 560,vi 9 e,vo 10 688,vi 11 f],[(496,.sl 274 b),(560,.sl 5 d),(688,.sl 274 g)])
def SAy (d:Hw) (e:Aq1) (f:Ic) (k:Aw7 RAX AA):qh:=fun a b c=>mk (cond (ArS a) (cond (Na (Pm a)) (k (.c0 b (Arv (25:Int)) ((Pm a)++[c]))) none) none)
def Xm (a:Hw) (b:Aq1) (c:Ic) (k:Aw7 RAX AA):Aw7 RAX AA
 |.c0 e f d=>mk (cond (!(Aq6 e)) (cond (((AsC d).tmod e) != 0) (cond (Na d) (k (.c0 e f (d++[DI]))) none) (cond (EZ ((AsC d) - 1) d) (cond (EZ ((AsC d) - 1) d) (k (.c1 e 0 f (CAu d))) none) none)) none)
 |.c1 f d h e=>mk (cond (Aqt d (AsC e)) (cond (Ll d (Fb d f) (AsC e)) ((a (ofBytes ((e.drop (BN d)).take ((Aqq (d+f)) - (BN d))))).bind fun g=>k (.c2 f d 0 h e g)) none) (Ap2 (c h)))
 |.c2 g h d e i f=>mk (cond (Aqt d (AsC f)) (cond (Dt d e) (cond (Dt d f) (cond (Dt d e) (k (.c2 g h (ArO d) (e.set (BN d) (Eb (Ie AqE (GZ e d) (GZ f d)))) i f)) none) none) none) ((b e).bind fun j=>k (.c1 g (Fb h g) j i)))
def Oa:AzH RAX AA
 |0,_=>none
 |m+1,s=>Xm iw jD jE (Oa m) s
def uh:qh:=SAy iw jD jE (Oa AY)
def KBW:Awe:=fy u3 uh AVd Cc [OBE,SBE,TBE] Tryz.func372 JBW Xm SAy Oa
def TAy (b:qh):AqM:=fun c=>(b c 168 31).bind fun a=>some ⟨a,0⟩
def jK:AqM:=TAy uh
def UBE:Awe:=BI u1 jK Cc AVe [KBW] Tryz.func348 TAy
def UAy (d:Hw) (e:Aq1) (f:Ic):CG:=fun a=>mk (cond ((TT a) != 200) (some a) ((d a).bind fun b=>(e b).bind fun c=>Ap2 (f c)))
def uj:CG:=UAy iw jD jE
def LBW:Awe:=BI u1 uj Cc Cc [OBE,SBE,TBE] Tryz.func373 UAy
inductive UAX where
 |c0 (a:Int) (b d:F6) (e:(List Int))
def MBW:UAX->Avy
 |.c0 d a b e=>(tdo Tryz.f349 480,[vi 1 d,vp 2 128,vp 4 256,vo 6 432],[(128,.var [.str a.F7,li a.ER]),(256,.var [.str b.F7,li b.ER]),(432,.sl 5 e)])
def VAy (c:AqW) (f:CG) (k:Aw7 UAX (F6×AA)):Avb:=fun a d=>mk ((c d 0 4000).bind fun b=>cond (!b) (some (a,IK)) (cond ((TT a.F7) != 200) (some (a,IK)) ((c a.ER 0 168).bind fun e=>cond (!e) (some (a,IK)) (k (.c0 d a ⟨IK,0⟩ [])))))
def WAy (a:AqW) (b:CG) (k:Aw7 UAX (F6×AA)):Aw7 UAX (F6×AA)
 |.c0 e c g d=>mk (cond (Aqt (AsC d) e) (cond (c.ER == 168) ((b c.F7).bind fun f=>cond (Qs MW (AwZ e (AsC d))) (cond (((decide (DI<=DI)) && (KD (Ad (0+(AwZ e (AsC d)))))) && (Avv (Ad (0+(AwZ e (AsC d)))) (TT f))) (cond (ArS (JE f DI (0+(AwZ e (AsC d))))) (cond (rF d (JE f DI (0+(AwZ e (AsC d))))) (k (.c0 e ⟨f,Ad (0+(AwZ e (AsC d)))⟩ g (d++(Pm (JE f DI (0+(AwZ e (AsC d)))))))) none) none) none) (cond (((decide (DI<=DI)) && (KD (Ad (0+MW)))) && (Avv (Ad (0+MW)) (TT f))) (cond (ArS (JE f DI (0+MW))) (cond (rF d (JE f DI (0+MW))) (k (.c0 e ⟨f,Ad (0+MW)⟩ g (d++(Pm (JE f DI (0+MW)))))) none) none) none)) (cond (Qs (AqZ c) (AwZ e (AsC d))) (cond (Ll c.ER (Fb c.ER (AwZ e (AsC d))) (TT c.F7)) (cond (ArS (JE c.F7 c.ER (c.ER+(AwZ e (AsC d))))) (cond (rF d (JE c.F7 c.ER (c.ER+(AwZ e (AsC d))))) (k (.c0 e ⟨c.F7,Fb c.ER (AwZ e (AsC d))⟩ g (d++(Pm (JE c.F7 c.ER (c.ER+(AwZ e (AsC d)))))))) none) none) none) (cond (Ll c.ER (Fb c.ER (AqZ c)) (TT c.F7)) (cond (ArS (JE c.F7 c.ER (c.ER+(AqZ c)))) (cond (rF d (JE c.F7 c.ER (c.ER+(AqZ c)))) (k (.c0 e ⟨c.F7,Fb c.ER (AqZ c)⟩ g (d++(Pm (JE c.F7 c.ER (c.ER+(AqZ c))))))) none) none) none))) (some (c,ofBytes d)))
def jL:AzH UAX (F6×AA)
 |0,_=>none
 |m+1,s=>WAy Arz uj (jL m) s
def Zy:Avb:=VAy Arz uj (jL AY)
def VBE:Awe:=fy u2 Zy AVf AVg [JV,LBW] Tryz.func349 MBW WAy VAy jL
inductive VAX where
 |c0 (b:AA) (d:Int) (e:F6) (a:(List Int))
 |c1 (a:(List Int))
def NBW:VAX->Avy
 |.c0 d e b a=>(tdo Tryz.f317 2000,[vo 7 496,vp 8 512,vs 9 d,vi 10 e],[(512,.var [.str b.F7,li b.ER]),(496,.sl 3 a)])
 |.c1 a=>(tdo Tryz.f317 2016,[vo 7 496],[(496,.sl 3 a)])
def XAy (d:Bl) (h:AqM) (i:Avb) (k:Aw7 VAX (List Int)):Y5:=fun b f g=>mk ((d f).bind fun a=>cond (KZ b a) ((d g).bind fun c=>cond (Gx b a c) ((h ((b++a)++c)).bind fun e=>k (.c0 IK 0 e [])) none) none)
def TAk (a:Bl) (b:AqM) (c:Avb) (k:Aw7 VAX (List Int)):Aw7 VAX (List Int)
 |.c0 g d h f=>mk (cond (d<4000) (cond (Ar1 (AsC f)) (cond (Aq6 (MS d)) ((c h 168).bind fun e=>cond (AwE (MS d) (TT e.2)) (cond (AwE (ArO (MS d)) (TT e.2)) (cond (AwE (ArO (MS d)) (TT e.2)) (cond (AwE (Ad ((MS d)+2)) (TT e.2)) (cond (ZK (fA e d)) (cond (NV f) (cond (ZK (HAU e d)) (cond (Ar1 (AsC (f++[fA e d]))) (cond (NV (f++[fA e d])) (k (.c0 e.2 (ArO d) e.1 ((f++[fA e d])++[HAU e d]))) none) (k (.c0 e.2 (ArO d) e.1 (f++[fA e d])))) (k (.c0 e.2 (ArO d) e.1 (f++[fA e d])))) none) (cond (ZK (HAU e d)) (cond (Ar1 (AsC f)) (cond (NV f) (k (.c0 e.2 (ArO d) e.1 (f++[HAU e d]))) none) (k (.c0 e.2 (ArO d) e.1 f))) (k (.c0 e.2 (ArO d) e.1 f)))) none) none) none) none) (cond (AwE (MS d) (TT g)) (cond (AwE (ArO (MS d)) (TT g)) (cond (AwE (ArO (MS d)) (TT g)) (cond (AwE (Ad ((MS d)+2)) (TT g)) (cond (ZK (fC g d)) (cond (NV f) (cond (ZK (IAU g d)) (cond (Ar1 (AsC (f++[fC g d]))) (cond (NV (f++[fC g d])) (k (.c0 g (ArO d) h ((f++[fC g d])++[IAU g d]))) none) (k (.c0 g (ArO d) h (f++[fC g d])))) (k (.c0 g (ArO d) h (f++[fC g d])))) none) (cond (ZK (IAU g d)) (cond (Ar1 (AsC f)) (cond (NV f) (k (.c0 g (ArO d) h (f++[IAU g d]))) none) (k (.c0 g (ArO d) h f))) (k (.c0 g (ArO d) h f)))) none) none) none) none)) (k (.c1 f))) (k (.c1 f)))
 |.c1 d=>mk (cond (Ar1 (AsC d)) (cond (NV d) (k (.c1 (d++[DI]))) none) (Ej d))
def UW:AzH VAX (List Int)
 |0,_=>none
 |m+1,s=>TAk Arq jK Zy (UW m) s
def Vl:Y5:=XAy Arq jK Zy (UW AY)
def OBW:Awe:=fy u3 Vl wR JZ [XB,UBE,VBE] Tryz.func317 NBW TAk XAy UW
inductive WAX where
 |c0 (a:AA) (b:Int) (d:(List (List Int)))
 |c1 (a:AA) (b e:Int) (d:(List (List Int)))
def PBW:WAX->Avy
 |.c0 a b d=>(tdo Tryz.f277 464,[vs 0 a,vo 3 240,vi 4 b],[(240,.sl 37 d)])
 |.c1 a b e d=>(tdo Tryz.f277 29840,[vs 0 a,vo 3 240,vi 4 b,vi 5 e],[(240,.sl 37 d)])
def YAy (b:Y5) (k:Aw7 WAX (List (List Int))):BAh:=fun a=>k (.c0 a 0 [])
def ZAy (a:Y5) (k:Aw7 WAX (List (List Int))):Aw7 WAX (List (List Int))
 |.c0 d b c=>mk (cond (Aqn b) (k (.c1 d b 0 c)) (some c))
 |.c1 c d b e=>mk (cond (Aqn b) ((a c b d).bind fun f=>cond (Wi e) (k (.c1 c d (ArO b) (e++[f]))) none) (k (.c0 c (ArO d) e)))
def UAk:AzH WAX (List (List Int))
 |0,_=>none
 |m+1,s=>ZAy Vl (UAk m) s
def um:BAh:=YAy Vl (UAk AY)
def QBW:Awe:=fy u1 um Cc AEd [OBW] Tryz.func277 PBW ZAy YAy UAk
def ALP (e:AqW) (f:AqM) (h:Avb):Y6:=fun g b=>mk ((e b 0 4000).bind fun a=>cond (!a) (Ar2 (IK,false)) ((f g).bind fun c=>(h c b).bind fun d=>Ar2 (d.2,true)))
def jM:Y6:=ALP Arz jK Zy
def RBW:Awe:=BI u2 jM Q9 IQ [JV,UBE,VBE] Tryz.func321 ALP
inductive YAX where
 |c0 (a:AA) (b:Int) (d:(List Int))
def SBW:YAX->Avy
 |.c0 a b d=>(tdo Tryz.f279 976,[vo 5 368,vs 6 a,vi 8 b],[(368,.sl 3 d)])
def BAz (d:Bl) (f:Y6) (k:Aw7 YAX (List Int)):AsG:=fun b e=>mk ((d e).bind fun a=>cond (KZ b a) ((f (b++a) 128).bind fun c=>k (.c0 c.1 0 [])) none)
def CAz (a:Bl) (b:Y6) (k:Aw7 YAX (List Int)):Aw7 YAX (List Int)
 |.c0 d c e=>mk (cond (Ar1 c) (cond (AwE (Nh c) (TT d)) (cond (OI c) (cond (NV e) (k (.c0 d (ArO c) (e++[(HAu (fJ (Qk d (Nh c))) (Nh (fJ (Qk d (Nh c))))).tmod 3329]))) none) (cond (NV e) (k (.c0 d (ArO c) (e++[(HAu (Qk d (Nh c)) (Nh (Qk d (Nh c)))).tmod 3329]))) none)) none) (Ej e))
def jO:AzH YAX (List Int)
 |0,_=>none
 |m+1,s=>CAz Arq jM (jO m) s
def Vm:AsG:=BAz Arq jM (jO AY)
def TBW:Awe:=fy u2 Vm Q9 JZ [XB,RBW] Tryz.func279 SBW CAz BAz jO
inductive ZAX where
 |c0 (a:(List Int)) (b:Int)
def UBW:ZAX->Avy
 |.c0 a b=>(tdo Tryz.f318 464,[vr 0 3 a,vi 3 b],[])
def DAz (b:AqW) (k:Aw7 ZAX Bool):MR:=fun a=>mk (cond ((AsC a) != 256) (some false) (k (.c0 a 0)))
def VAk (a:AqW) (k:Aw7 ZAX Bool):Aw7 ZAX Bool
 |.c0 c b=>mk (cond (Aqt b (AsC c)) (cond (Dt b c) ((a (GZ c b) 0 3328).bind fun d=>cond (!d) (some false) (k (.c0 c (ArO b)))) none) (some true))
def jX:AzH ZAX Bool
 |0,_=>none
 |m+1,s=>VAk Arz (jX m) s
def UY:MR:=DAz Arz (jX AY)
def WAk:Awe:=fy u1 UY Wn E8 [JV] Tryz.func318 UBW VAk DAz jX
inductive ABU where
 |c0 (a b d:Int)
def VBW:ABU->Avy
 |.c0 a b d=>(tdo Tryz.f320 2000,[vi 0 a,vi 3 b,vi 4 d],[])
def EAz (k:Aw7 ABU Int):Qc:=fun a=>mk (cond (Av8 (a.tmod 128)) (k (.c0 (Ad ((a.tmod 128)+128)) 0 0)) (k (.c0 (a.tmod 128) 0 0)))
def FAz (k:Aw7 ABU Int):Aw7 ABU Int
 |.c0 b c a=>mk (cond (a<7) (k (.c0 (Nh b) (Fb (Ad (2*c)) (b.tmod 2)) (ArO a))) (some c))
def uo:AzH ABU Int
 |0,_=>none
 |m+1,s=>FAz (uo m) s
def Zz:Qc:=EAz (uo AY)
def WBE:Awe:=fy u1 Zz FN FN [] Tryz.func320 VBW FAz EAz uo
inductive CAY where
 |c0 (a b d:Int)
def WBW:CAY->Avy
 |.c0 a b d=>(tdo Tryz.f319 2016,[vi 0 a,vi 1 b,vi 5 d],[])
def GAz (d:AqW) (k:Aw7 CAY Int):FX:=fun b a=>mk ((d a 0 1000000000).bind fun c=>cond (!c) (some 0) (cond (Av8 (b.tmod 3329)) (k (.c0 (Ad ((b.tmod 3329)+3329)) a 1)) (k (.c0 (b.tmod 3329) a 1))))
def HAz (a:AqW) (k:Aw7 CAY Int):Aw7 CAY Int
 |.c0 b c d=>mk (cond (Avi c) (cond (OI c) (k (.c0 (ZE (b*b)) (Nh c) (fB d b))) (k (.c0 (ZE (b*b)) (Nh c) d))) (some d))
def uq:AzH CAY Int
 |0,_=>none
 |m+1,s=>HAz Arz (uq m) s
def Z4:FX:=GAz Arz (uq AY)
def XBE:Awe:=fy u2 Z4 wP FN [JV] Tryz.func319 WBW HAz GAz uq
inductive FAY where
 |c0 (a b:Int) (d:(List Int))
 |c1 (a b e:Int) (d:(List Int))
 |c2 (a b:Int) (e f g:Int) (d:(List Int))
def XBW:FAY->Avy
 |.c0 a b d=>(tdo Tryz.f278 2000,[vo 3 240,vi 4 a,vi 5 b],[(240,.sl 3 d)])
 |.c1 a b e d=>(tdo Tryz.f278 128144,[vo 3 240,vi 4 a,vi 5 b,vi 6 e],[(240,.sl 3 d)])
 |.c2 a b e f g d=>(tdo Tryz.f278 32805488,[vo 3 240,vi 4 a,vi 5 b,vi 6 e,vi 7 f,vi 8 g],[(240,.sl 3 d)])
def IAz (c:MR) (d:Qc) (e:FX) (k:Aw7 FAY (List Int)):Aq1:=fun a=>mk ((c a).bind fun b=>cond (!b) (Ej []) (cond (Av2 ((0+a.length)*8)) (k (.c0 1 128 a)) none))
def Z5 (a:MR) (b:Qc) (c:FX) (k:Aw7 FAY (List Int)):Aw7 FAY (List Int)
 |.c0 f d e=>mk (cond (d>=2) (k (.c1 f d 0 e)) (Ej e))
 |.c1 e h d i=>mk (cond (Ar1 d) ((b e).bind fun f=>(c 17 f).bind fun g=>k (.c2 (ArO e) h d g d i)) (k (.c0 e (Nh h) i)))
 |.c2 i e h g d f=>mk (cond (Aqt d (Fb h e)) (cond (EZ (d+e) f) (cond (Dt d f) (cond (EZ (d+e) f) (cond (Dt d (EAU f d e g)) (cond (Dt d (EAU f d e g)) (k (.c2 i e h g (ArO d) ((EAU f d e g).set (BN d) ((Fb (GZ (EAU f d e g) d) (fB g (Ld f (d+e)))).tmod 3329)))) none) none) none) none) none) (k (.c1 i e (Fb h (Ad (2*e))) f)))
def PI:AzH FAY (List Int)
 |0,_=>none
 |m+1,s=>Z5 UY Zz Z4 (PI m) s
def Xn:Aq1:=IAz UY Zz Z4 (PI AY)
def YBE:Awe:=fy u1 Xn Wn JZ [WAk,WBE,XBE] Tryz.func278 XBW Z5 IAz PI
inductive GAY where
 |c0 (a b d:Int)
def YBW:GAY->Avy
 |.c0 a b d=>(tdo Tryz.f350 464,[vi 0 a,vi 3 b,vi 4 d],[])
def JAz (k:Aw7 GAY Int):Qc:=fun a=>k (.c0 a 1 0)
def XAk (k:Aw7 GAY Int):Aw7 GAY Int
 |.c0 b c a=>mk (cond (Aqt a b) (k (.c0 b (Ad (2*c)) (ArO a))) (some c))
def jw:AzH GAY Int
 |0,_=>none
 |m+1,s=>XAk (jw m) s
def Xo:Qc:=JAz (jw AY)
def ZBW:Awe:=fy u1 Xo FN FN [] Tryz.func350 YBW XAk JAz jw
inductive HAY where
 |c0 (a:(List Int)) (b h:Int)
 |c1 (a:(List Int)) (b d:Int) (e f:Int) (g:(List Int))
 |c2 (a:(List Int)) (b d:Int) (e f:Int) (g:(List Int))
def AmS:HAY->Avy
 |.c0 a b h=>(tdo Tryz.f322 464,[vr 0 3 a,vi 1 b,vi 6 h],[])
 |.c1 a b d e f g=>(tdo Tryz.f322 8144,[vr 0 3 a,vi 1 b,vo 7 496,vi 8 d,vi 9 e,vi 10 f],[(496,.sl 5 g)])
 |.c2 a b d e f g=>(tdo Tryz.f322 1042736,[vr 0 3 a,vi 1 b,vo 7 496,vi 8 d,vi 9 e,vi 10 f],[(496,.sl 5 g)])
def KAz (c:AqW) (e:Qc) (k:Aw7 HAY (AA×Bool)):IAt:=fun d b=>mk ((c b 1 12).bind fun a=>cond (!a) (Ar2 (IK,false)) (k (.c0 d b 0)))
def Qz (a:AqW) (b:Qc) (k:Aw7 HAY (AA×Bool)):Aw7 HAY (AA×Bool)
 |.c0 c e d=>mk (cond (Aqt d (AsC c)) (cond (Dt d c) ((b e).bind fun f=>(a (GZ c d) 0 (Lr f)).bind fun g=>cond (!g) (Ar2 (IK,false)) (k (.c0 c e (ArO d)))) none) (k (.c1 c e 0 0 0 [])))
 |.c1 d h i f c e=>mk (cond (Aqt c (AsC d)) (cond (Dt c d) ((b f).bind fun g=>k (.c2 d h (Fb i (Ad ((GZ d c)*g))) (Fb f h) c e)) none) (cond (Avi f) (AqO (Na e) (Ar2 (ofBytes (e++[w8 i]),true))) (Ar2 (ofBytes e,true))))
 |.c2 f g e c h d=>mk (cond (c>=8) (cond (Na d) (k (.c2 f g (Ad (e.tdiv 256)) (Ad (c - 8)) h (d++[w8 (e.tmod 256)]))) none) (k (.c1 f g e c (ArO h) d)))
def Ob:AzH HAY (AA×Bool)
 |0,_=>none
 |m+1,s=>Qz Arz Xo (Ob m) s
def YAk:IAt:=KAz Arz Xo (Ob AY)
def BBX:Awe:=fy u2 YAk wQ IQ [JV,ZBW] Tryz.func322 AmS Qz KAz Ob
def LAz (d:MR) (e:IAt):Ic:=fun b=>mk ((d b).bind fun a=>cond (!a) Rl ((e b 12).bind fun c=>some c.1))
def Z7:Ic:=LAz UY YAk
def CBX:Awe:=BI u1 Z7 Wn Cc [WAk,BBX] Tryz.func280 LAz
inductive IAY where
 |c0 (a b:(List Int)) (d:Int) (e:(List Int))
def DBX:IAY->Avy
 |.c0 a b d e=>(tdo Tryz.f323 976,[vr 0 3 a,vr 1 3 b,vo 5 368,vi 6 d],[(368,.sl 3 e)])
def MAz (b:MR) (f:Qc) (g:FX) (k:Aw7 IAY (List Int)):Aq5:=fun c e=>mk ((b c).bind fun a=>cond (!a) (Ej []) ((b e).bind fun d=>cond (!d) (Ej []) (k (.c0 c e 0 []))))
def NAz (a:MR) (b:Qc) (c:FX) (k:Aw7 IAY (List Int)):Aw7 IAY (List Int)
 |.c0 e f d g=>mk (cond (d<128) ((b d).bind fun h=>(c 17 (AwU h)).bind fun i=>cond (AwE (AwU d) (AsC e)) (cond (AwE (AwU d) (AsC f)) (cond (EZ (2*d) e) (cond (EZ (2*d) f) (cond (EZ (2*d) e) (cond (AwE (AwU d) (AsC f)) (cond (AwE (AwU d) (AsC e)) (cond (EZ (2*d) f) (cond (Av2 ((g.length+2)*8)) (k (.c0 e f (ArO d) (g++[(NY ((Ld e (2*d))*(Ld f (2*d))) ((fB (GZ e (AwU d)) (GZ f (AwU d)))*i)).tmod 3329,(NY ((Ld e (2*d))*(GZ f (AwU d))) ((GZ e (AwU d))*(Ld f (2*d)))).tmod 3329]))) none) none) none) none) none) none) none) none) none) (Ej g))
def jy:AzH IAY (List Int)
 |0,_=>none
 |m+1,s=>NAz UY Zz Z4 (jy m) s
def uw:Aq5:=MAz UY Zz Z4 (jy AY)
def EBX:Awe:=fy u2 uw bK JZ [WAk,WBE,XBE] Tryz.func323 DBX NAz MAz jy
inductive KAY where
 |c0 (a b:(List Int)) (d:Int) (e:(List Int))
def FBX:KAY->Avy
 |.c0 a b d e=>(tdo Tryz.f281 464,[vr 0 3 a,vr 1 3 b,vo 5 368,vi 6 d],[(368,.sl 3 e)])
def OAz (c:MR) (k:Aw7 KAY (List Int)):Aq5:=fun a b=>k (.c0 a b 0 [])
def PAz (a:MR) (k:Aw7 KAY (List Int)):Aw7 KAY (List Int)
 |.c0 d e b c=>mk (cond (Ar1 b) ((a d).bind fun f=>cond f ((a e).bind fun g=>cond g (cond (Dt b d) (cond (Dt b e) (cond (NV c) (k (.c0 d e (ArO b) (c++[(Fb (GZ d b) (GZ e b)).tmod 3329]))) none) none) none) (Ej c)) (Ej c)) (Ej c))
def kC:AzH KAY (List Int)
 |0,_=>none
 |m+1,s=>PAz UY (kC m) s
def Xp:Aq5:=OAz UY (kC AY)
def ZBE:Awe:=fy u2 Xp bK JZ [WAk] Tryz.func281 FBX PAz OAz kC
inductive NAY where
 |c0 (a:(List (List Int))) (b:(List (List Int))) (d:Int) (e:(List Int))
def GBX:NAY->Avy
 |.c0 a b d e=>(tdo Tryz.f282 464,[vr 0 37 a,vr 1 37 b,vo 5 368,vi 6 d],[(368,.sl 3 e)])
def QAz (c d:Aq5) (k:Aw7 NAY (List Int)):Ri:=fun a b=>mk (k (.c0 a b 0 Wy))
def ZAk (a b:Aq5) (k:Aw7 NAY (List Int)):Aw7 NAY (List Int)
 |.c0 d e c h=>mk (cond (Gm c d.length) (cond (AwI c d.length) (cond (AwI c e.length) ((a (d.getD (BN c) []) (e.getD (BN c) [])).bind fun f=>(b h f).bind fun g=>k (.c0 d e (ArO c) g)) none) none) (Ej h))
def kD:AzH NAY (List Int)
 |0,_=>none
 |m+1,s=>ZAk uw Xp (kD m) s
def UZ:Ri:=QAz uw Xp (kD AY)
def AZM:Awe:=fy u2 UZ AUj JZ [EBX,ZBE] Tryz.func282 GBX ZAk QAz kD
inductive OAY where
 |c0 (a b:AA) (d e f:AA) (j:Int) (g:Ky) (h:(List (List Int))) (i:(List (List Int)))
 |c1 (a b:AA) (d e f:AA) (l:Int) (g:Ky) (h:(List (List Int))) (i:(List (List Int)))
def HBX:OAY->Avy
 |.c0 b d e f g j a h i=>(tdo Tryz.f246 65488,[vp 2 128,vs 4 b,vs 5 d,vs 6 e,vo 7 496,vo 8 560,vs 9 f,vs 10 g,vi 11 j],[(128,.var [.str a.bH,.str a.bI]),(496,.sl 37 h),(560,.sl 37 i)])
 |.c1 b d e f g l a h i=>(tdo Tryz.f246 131024,[vp 2 128,vs 4 b,vs 5 d,vs 6 e,vo 7 496,vo 8 560,vs 9 f,vs 10 g,vi 13 l],[(128,.var [.str a.bH,.str a.bI]),(496,.sl 37 h),(560,.sl 37 i)])
def RAz (b:CG) (g:BAh) (h:AsG) (i:Aq1) (j:Ic) (l:Ri) (m:Aq5) (k:Aw7 OAY (Ky×Bool)):Y7:=fun d=>mk (cond ((TT d) != 32) (some (⟨IK,IK⟩,false)) ((b d).bind fun a=>cond (KZ a (Ap1 ⟨#[114]⟩)) ((b (a++(Ap1 ⟨#[114]⟩))).bind fun c=>cond (KZ a (Ap1 ⟨#[115]⟩)) ((b (a++(Ap1 ⟨#[115]⟩))).bind fun e=>(g c).bind fun f=>k (.c0 a c e IK IK 0 ⟨IK,IK⟩ f [])) none) none))
def Xq (a:CG) (b:BAh) (c:AsG) (d:Aq1) (e:Ic) (f:Ri) (g:Aq5) (k:Aw7 OAY (Ky×Bool)):Aw7 OAY (Ky×Bool)
 |.c0 p q i r n h s t l=>mk (cond (Aqn h) ((c i h).bind fun o=>(d o).bind fun j=>cond (Wi l) ((e j).bind fun m=>cond (KZ n m) (k (.c0 p q i r (n++m) (ArO h) s t (l++[j]))) none) none) (k (.c1 p q i r n 0 s t l)))
 |.c1 p j u h l i x n s=>mk (cond (Aqn i) (cond (Ll (Ad (i*2)) (Ad ((Ad (i*2))+2)) (n.length:Int)) ((f ((n.drop (Aqq (i*2))).take ((Aqq ((Ad (i*2))+2)) - (Aqq (i*2)))) s).bind fun r=>(c u (Ad (2+i))).bind fun t=>(d t).bind fun v=>(g r v).bind fun w=>(e w).bind fun o=>cond (KZ h o) (k (.c1 p j u (h++o) l (ArO i) x n s)) none) none) (cond (KZ h j) (cond (KZ l (h++j)) ((a (h++j)).bind fun m=>cond (Gx l (h++j) m) (cond (KZ p (Ap1 ⟨#[122]⟩)) ((a (p++(Ap1 ⟨#[122]⟩))).bind fun q=>cond (Gx (l++(h++j)) m q) (some (⟨h++j,((l++(h++j))++m)++q⟩,true)) none) none) none) none) none))
def Vo:AzH OAY (Ky×Bool)
 |0,_=>none
 |m+1,s=>Xq JB um Vm Xn Z7 UZ Xp (Vo m) s
def uy:Y7:=RAz JB um Vm Xn Z7 UZ Xp (Vo AY)
def BBF:Awe:=fy u1 uy Cc AUk [P7,QBW,TBW,YBE,CBX,AZM,ZBE] Tryz.func246 HBX Xq RAz Vo
def SAz:qj:=fun _=>none
def IBX:Awe:=fs u1 SAz Cc AUl 351
def TAz:AsG:=fun _ _=>none
def JBX:Awe:=fs u2 TAz Q9 JZ 352
def UAz:Aq1:=fun _=>none
def KBX:Awe:=fs u1 UAz Wn JZ 354
def VAz:Aq5:=fun _ _=>none
def LBX:Awe:=fs u2 VAz bK JZ 353
inductive RAY where
 |c0 (a:AA) (b:Int) (d:(List (List Int))) (e:(List (List Int)))
def MBX:RAY->Avy
 |.c0 a b d e=>(tdo Tryz.f324 4048,[vs 1 a,vo 6 432,vo 8 560,vi 9 b],[(432,.sl 37 d),(560,.sl 37 e)])
def WAz (d:qj) (e:AsG) (f:Aq1) (g:Ri) (h:Aq1) (i:Aq5) (k:Aw7 RAY (List Int×Bool)):ql:=fun b c=>mk (cond ((TT b) != 1632) (some ([],false)) (cond ((TT c) != 768) (some ([],false)) ((d b).bind fun a=>cond (!a.2) (some ([],false)) (k (.c0 c 0 a.1 [])))))
def CBF (a:qj) (b:AsG) (c:Aq1) (d:Ri) (e:Aq1) (f:Aq5) (k:Aw7 RAY (List Int×Bool)):Aw7 RAY (List Int×Bool)
 |.c0 h g m i=>mk (cond (Aqn g) (cond (Ll (Ad (g*320)) (Ad ((ArO g)*320)) (TT h)) ((b (U0 h (g*320) ((ArO g)*320)) 10).bind fun j=>(c j).bind fun l=>cond (Wi i) (k (.c0 h (ArO g) m (i++[l]))) none) none) (cond ((Avv DI (640:Int)) && (decide (640<=(TT h)))) ((b (AwX h (640:Int)) 4).bind fun n=>(d m i).bind fun o=>(e o).bind fun p=>(f n p).bind fun q=>some (q,true)) none))
def XAz:AzH RAY (List Int×Bool)
 |0,_=>none
 |m+1,s=>CBF SAz TAz Xn UZ UAz VAz (XAz m) s
def YAz:ql:=WAz SAz TAz Xn UZ UAz VAz (XAz AY)
def NBX:Awe:=fy u2 YAz KJ AKk [IBX,JBX,YBE,AZM,KBX,LBX] Tryz.func324 MBX CBF WAz XAz
def DBF:qm:=fun _ _=>none
def OBX:Awe:=fs u2 DBF wQ Cc 325
def ZAz (c:ql) (f:qm):Avk:=fun d e=>mk ((c d e).bind fun a=>cond (!a.2) (Ar2 (IK,false)) ((f a.1 1).bind fun b=>Ar2 (b,true)))
def ALk:Avk:=ZAz YAz DBF
def PBX:Awe:=BI u2 ALk KJ IQ [NBX,OBX] Tryz.func283 ZAz
def EBF:CAh:=fun _ _=>none
def QBX:Awe:=fs u2 EBF KJ AUm 284
def BA0 (h:Avk) (i:CAh) (f:CG):Avk:=fun a b=>mk ((h a b).bind fun d=>cond (!d.2) (Ar2 (IK,false)) (AqO (GAu a) ((i (a.extract (BN (768:Int)) (BN (1568:Int))) d.1).bind fun c=>cond c.2.2 (cond (Avd c.1 b) (Ar2 (c.2.1,true)) (AqO (GK (Ad ((TT a) - 32)) (TT a)) (AqO (KZ (LAU a) b) ((f ((LAU a)++b)).bind fun e=>Ar2 (e,true))))) (AqO (GK (Ad ((TT a) - 32)) (TT a)) (AqO (KZ (LAU a) b) ((f ((LAU a)++b)).bind fun g=>Ar2 (g,true)))))))
def kE:Avk:=BA0 ALk EBF JB
def RBX:Awe:=BI u2 kE KJ IQ [PBX,QBX,P7] Tryz.func247 BA0
def CA0 (e:Arl):qo:=fun a c b=>mk ((e a).bind fun d=>cond (!d) (some (⟨0,0,false,false,false,false,IK,0⟩,false)) (cond (AqD a) (cond (!c) (some (⟨0,0,false,false,false,false,IK,0⟩,false)) (cond (FK a) (cond (!b) (some (⟨0,0,false,false,false,false,IK,0⟩,false)) (some (Ars a c b,true))) (some (Ars a c b,true)))) (cond (FK a) (cond (!b) (some (⟨0,0,false,false,false,false,IK,0⟩,false)) (some (Ars a c b,true))) (some (Ars a c b,true)))))
def AEA:qo:=CA0 WL
def SBX:Awe:=BI u3 AEA AUn Yb [DAV] Tryz.func248 CA0
def DA0 (b:CG):CG:=fun a=>mk (Arm (KZ a AsI) (Ap2 (b (a++AsI))))
def BAl:CG:=DA0 uG
def TBX:Awe:=BI u1 BAl Cc Cc [MBE] Tryz.func285 DA0
def EA0 (d:Arl) (e:Y7) (f:CG):qp:=fun a=>mk ((d a).bind fun b=>cond (!b) Rl (cond (a.Aj == 1) ((e (Td a)).bind fun c=>some c.1.bH) (cond (a.Aj == 2) (Ap2 (f (Td a))) Rl)))
def CAl:qp:=EA0 WL uy BAl
def UBX:Awe:=BI u1 CAl S9 Cc [DAV,BBF,TBX] Tryz.func249 EA0
def FA0 (e:qU) (d:eU) (t:Rh) (u:Aqv) (v:ArW) (w:Avk) (x:Y7) (y:Avk) (c:eP) (z:qo) (A:YAT) (B:qp):Rh:=fun j a b=>mk (cond (a.Au == 6) ((e b 1).bind fun h=>cond h (Ia (d [] (Td b))) (Ia (c 8 ZF))) (cond (a.Au == 5) ((e b 3).bind fun i=>cond i (Ia (t j a b)) (Ia (c 8 ZF))) (cond (a.Au == 10) ((e b 2).bind fun l=>cond l ((u b).bind fun m=>(v j).bind fun n=>(w n m.1).bind fun o=>Ia (d [] o.1)) (Ia (c 8 ZF))) (cond (a.Au == 12) ((e b 4).bind fun p=>cond p ((x (Td b)).bind fun q=>(y q.1.bI a.fText).bind fun f=>cond (!f.2) (Ia (c 6 NAU)) (Ia (d [] f.1))) (Ia (c 8 ZF))) (cond (a.Au == 8) ((z b a.CY a.CX).bind fun g=>cond g.2 ((A g.1).bind fun r=>Ia (d r IK)) (Ia (c 8 ZF))) (cond (a.Au == 7) ((B b).bind fun s=>Ia (d [] s)) (cond (a.Au == 9) (Ia (d [⟨4,IK,b.fId,⟨0,0,false,false,false,false,IK,0⟩⟩] IK)) (Ia (c 8 ZF)))))))))
def DAl:Rh:=FA0 ZAj rM QAk Ye bZ bf uy kE rJ AEA QAj CAl
def VBX:Awe:=BI u3 DAl AEp Oh [ZBU,HAW,XBV,OAi,QAw,SAw,BBF,RBX,EAW,SBX,DAx,UBX] Tryz.func190 FA0
def GA0 (c:eP) (l:Bl) (f:eU) (p:JC) (q:Jl) (r:CG) (n:qQ) (o:Yz) (s:Jl) (t:MJ) (u:Rh):Jl:=fun b a=>mk (cond (a.Au == 1) (cond ((Fe b:Int) == 3) (Ia (c 1 fE)) (cond ((Ar7 b) == 1000) (Ia (c 1 fE)) ((l (ArO (Ar7 b))).bind fun j=>Ia (f [] j)))) ((p b (ArX a)).bind fun d=>cond (Av8 d) (Ia (c 2 ⟨#[115,101,115,115,105,111,110]⟩)) (cond (a.Au == 13) (Ia (f [] IK)) (cond (a.Au == 2) (Ia (q b a)) (cond (AwI d (Fe b)) (cond (!(Ap7 (Es b) d ⟨0,false⟩).QW) (Ia (c 5 ⟨#[111,117,116]⟩)) (cond (a.Au == 3) (cond ((TT a.fText) > 20) (Ia (c 6 NAU)) ((r a.fText).bind fun m=>Ia (f [⟨1,m,0,⟨0,0,false,false,false,false,IK,0⟩⟩] IK))) (cond (a.Au == 4) (cond (a.Aj == 2) ((l (AqI b)).bind fun e=>cond (KZ e fG) (cond (KZ (e++fG) a.fText) ((n a.Aj ((e++fG)++a.fText)).bind fun g=>Ia (o b a g.1 g.2)) none) none) ((n a.Aj a.fText).bind fun h=>Ia (o b a h.1 h.2))) (cond (a.Au == 11) (Ia (s b a)) ((t (DX b) a.Ag).bind fun i=>cond (!i.2) (Ia (c 7 ⟨#[110,111,110,101]⟩)) (Ia (u b a i.1))))))) none)))))
def PK:Jl:=GA0 rJ iG rM NAj OAj JB PAj su YAj Ux DAl
def WBX:Awe:=BI u2 PK bM Oh [EAW,ZBD,HAW,QBU,RBU,P7,SBU,CBE,YBU,GAV,VBX] Tryz.func127 GA0
inductive TAY where
 |c0 (a:(List Int)) (b:Int) (d:BU) (e f:(List BQ))
def XBX:TAY->Avy
 |.c0 a b d e f=>(tdo Tryz.f250 976,[vr 1 3 a,vp 2 128,vp 4 256,vp 6 384,vi 7 b],[(128,.var [.BG 90 d.Ak]),(256,.var [.own 1016384]),(384,.var [.own 1024576]),(1016384,.sl 90 e),(1024576,.sl 90 f)])
def HA0 (c:MH) (k:Aw7 TAY (BU×Bool)):qH:=fun b d=>mk ((c b).bind fun a=>cond (!a) (Jb (IZ,false)) (k (.c0 d 0 b [] [])))
def IA0 (a:MH) (k:Aw7 TAY (BU×Bool)):Aw7 TAY (BU×Bool)
 |.c0 d b c f e=>mk (cond (Gm b (Sj c)) (cond (Um b c) (cond (Aqt b (AsC d)) (cond (Dt b d) (cond (Qs (GZ d b) (AwJ c b)) (cond (Aqt (AwJ c b) (Aqh c b)) (cond (GK (Aqh c b) (AwJ c b)) (cond (Rj e) (k (.c0 d (ArO b) c f (e++[U4 (KE c b) (KF c b) (BN (Aqh c b))]))) none) none) (cond ((KD (AwJ c b)) && (decide ((AwJ c b)<=(AwJ c b)))) (cond (Rj e) (k (.c0 d (ArO b) c f (e++[(⟨(KE c b).fName,P5 (KF c b) (AwJ c b),AwJ c b⟩:BQ)]))) none) none)) (cond (Aqt (GZ d b) (Aqh c b)) (cond (GK (Aqh c b) (AwJ c b)) (cond (Rj e) (k (.c0 d (ArO b) c f (e++[U4 (KE c b) (KF c b) (BN (Aqh c b))]))) none) none) (cond (GK (GZ d b) (AwJ c b)) (cond (Rj e) (k (.c0 d (ArO b) c f (e++[(⟨(KE c b).fName,P5 (KF c b) (GZ d b),GZ d b⟩:BQ)]))) none) none))) none) (cond (0<(Aqh c b)) (cond (GK (Aqh c b) (AwJ c b)) (cond (Rj e) (k (.c0 d (ArO b) c f (e++[U4 (KE c b) (KF c b) (BN (Aqh c b))]))) none) none) (cond (Rj e) (k (.c0 d (ArO b) c f (e++[(⟨(KE c b).fName,P5 (KF c b) DI,0⟩:BQ)]))) none))) none) (Jb (⟨e⟩,true)))
def uz:AzH TAY (BU×Bool)
 |0,_=>none
 |m+1,s=>IA0 WM (uz m) s
def vC:qH:=HA0 WM (uz AY)
def YBX:Awe:=fy u2 vC AUo jq [AIN] Tryz.func250 XBX IA0 HA0 uz
def JA0 (e:AqW) (f:U5) (h:qH):dh:=fun g b a i=>mk (Ap4 (e a 0 (Qi b)) (Jb (IZ,false)) (AqA (GK a (Qi b)) ((f g ((b.take (BN a)).drop 0)).bind fun c=>cond (Aqt c.2 a) (Jb (IZ,false)) ((h c.1 i).bind fun d=>Jb (d.1,d.2)))))
def vF:dh:=JA0 Arz pJ vC
def ZBX:Awe:=BI u4 vF AUp jq [JV,FAw,YBX] Tryz.func191 JA0
def KA0 (c:Aqr):XE:=fun b d=>mk ((c b d).bind fun a=>cond (Av8 a) (Ar2 (IK,false)) (AqO (Um a b) (Ar2 (KF b a,true))))
def kG:XE:=KA0 o9
def FBF:Awe:=BI u2 kG wS IQ [ARH] Tryz.func94 KA0
inductive YAY where
 |c0 (a:AA) (b:Int) (d:(List AA))
def Amt:YAY->Avy
 |.c0 a b d=>(tdo Tryz.f140 992,[vs 0 a,vo 4 304,vi 5 b],[(304,.sl 9 d)])
def LA0 (b:Qo) (c:Ap5) (k:Aw7 YAY (List AA×Int)):Y8:=fun a=>mk (cond ((TT a) > 20000) (some ([],0)) (k (.c0 a 0 [])))
def MA0 (a:Qo) (b:Ap5) (k:Aw7 YAY (List AA×Int)):Aw7 YAY (List AA×Int)
 |.c0 e d f=>mk (cond (Aqt d (TT e)) ((a e d).bind fun c=>cond (!c.2.2) (some (f,d)) (cond (Qs c.1 (Ad ((AwZ (TT e) c.2.1) - 4))) (some (f,d)) (cond (Ll (Ad (c.2.1+4)) (Ad (TR c)) (TT e)) ((b (U0 e (c.2.1+4) (TR c))).bind fun g=>cond (!g.2) (some (f,d)) (cond (Ll d (Ad (TR c)) (TT e)) (cond (!(Avd g.1 (JE e d (TR c)))) (some (f,d)) (cond (AqV f) (k (.c0 e (Ad (TR c)) (f++[U0 e (c.2.1+4) (TR c)]))) none)) none)) none))) (some (f,d)))
def vH:AzH YAY (List AA×Int)
 |0,_=>none
 |m+1,s=>MA0 RH Yh (vH m) s
def vG:Y8:=LA0 RH Yh (vH AY)
def BBY:Awe:=fy u1 vG Cc AUq [IAx,VAv] Tryz.func140 Amt MA0 LA0 vH
def dU (l:Y0) (m:ZAT) (i:Y0) (j:Y1) (c:AwL):Y9:=fun b=>mk ((l ⟨b,0,false⟩).bind fun a=>cond (a.1 == 1) ((m a.2 32).bind fun d=>ZB c ⟨a.1,d.1,0,⟨0,0,false,false,false,false,IK,0⟩⟩ d.2.I7 (some (⟨0,IK,0,⟨0,0,false,false,false,false,IK,0⟩⟩,false)) b (some (⟨a.1,d.1,0,⟨0,0,false,false,false,false,IK,0⟩⟩,true))) (cond (a.1 == 2) (cond (a.1 == 2) ((i a.2).bind fun e=>ZB c ⟨a.1,IK,e.1,⟨0,0,false,false,false,false,IK,0⟩⟩ e.2.I7 (some (⟨0,IK,0,⟨0,0,false,false,false,false,IK,0⟩⟩,false)) b (some (⟨a.1,IK,e.1,⟨0,0,false,false,false,false,IK,0⟩⟩,true))) (cond (a.1 == 3) (cond (MAU b) ((j (AwX b Aq4)).bind fun g=>ZB c ⟨a.1,IK,0,g.1⟩ a.2.I7 (some (⟨0,IK,0,⟨0,0,false,false,false,false,IK,0⟩⟩,false)) b (some (⟨a.1,IK,0,g.1⟩,true))) none) (ZB c ⟨a.1,IK,0,⟨0,0,false,false,false,false,IK,0⟩⟩ a.2.I7 (some (⟨0,IK,0,⟨0,0,false,false,false,false,IK,0⟩⟩,false)) b (some (⟨a.1,IK,0,⟨0,0,false,false,false,false,IK,0⟩⟩,true))))) (cond (a.1 == 4) ((i a.2).bind fun f=>ZB c ⟨a.1,IK,f.1,⟨0,0,false,false,false,false,IK,0⟩⟩ f.2.I7 (some (⟨0,IK,0,⟨0,0,false,false,false,false,IK,0⟩⟩,false)) b (some (⟨a.1,IK,f.1,⟨0,0,false,false,false,false,IK,0⟩⟩,true))) (cond (a.1 == 3) (cond (MAU b) ((j (AwX b Aq4)).bind fun h=>ZB c ⟨a.1,IK,0,h.1⟩ a.2.I7 (some (⟨0,IK,0,⟨0,0,false,false,false,false,IK,0⟩⟩,false)) b (some (⟨a.1,IK,0,h.1⟩,true))) none) (ZB c ⟨a.1,IK,0,⟨0,0,false,false,false,false,IK,0⟩⟩ a.2.I7 (some (⟨0,IK,0,⟨0,0,false,false,false,false,IK,0⟩⟩,false)) b (some (⟨a.1,IK,0,⟨0,0,false,false,false,false,IK,0⟩⟩,true)))))))
def Awc:Y9:=dU SY U3 Ym V7 dM
def CBY:Awe:=BI u1 Awc Cc AUr [EBE,LAx,KAx,FBE,DAv] Tryz.func142 dU
inductive BAZ where
 |c0 (a:AA) (b d:Int) (e:(List Ah)) (f:(List AA))
def DBY:BAZ->Avy
 |.c0 a b d e f=>(tdo Tryz.f95 2000,[vs 0 a,vo 6 432,vo 7 496,vi 9 b,vi 10 d],[(432,.sl 78 e),(496,.sl 9 f)])
def NA0 (b:Y8) (e:Tn) (f:Y9) (g:Ap5) (k:Aw7 BAZ (List Ah×Int)):XF:=fun d c=>(b c).bind fun a=>k (.c0 d 0 0 [] a.1)
def EAl (a:Y8) (b:Tn) (c:Y9) (d:Ap5) (k:Aw7 BAZ (List Ah×Int)):Aw7 BAZ (List Ah×Int)
 |.c0 l h e g f=>mk (cond (Aqt e (En f)) (cond (OL e f) ((b l (ArO e) (Tf f e IK)).bind fun i=>(c i.1).bind fun j=>cond (!i.2) (some (g,h)) (cond (!j.2) (some (g,h)) (cond (dn g) (cond (OL e f) ((d (Tf f e IK)).bind fun m=>k (.c0 l (Fb h (TT m.1)) (ArO e) (g++[j.1]) f)) none) none))) none) (some (g,h)))
def kK:AzH BAZ (List Ah×Int)
 |0,_=>none
 |m+1,s=>EAl vG iH Awc Yh (kK m) s
def kJ:XF:=NA0 vG iH Awc Yh (kK AY)
def GBF:Awe:=fy u2 kJ KJ AUs [BBY,DBE,CBY,VAv] Tryz.func95 DBY EAl NA0 kK
def OA0:qw:=fun a b=>mk (cond (Av2 ((0+a.CO.length)*80)) (cond (dn a.CO) (some ⟨a.AX,a.Bq,ArN a,a.Cm,a.CO++[b]⟩) none) none)
def Xr:qw:=OA0
def HBF:Awe:=BI u2 Xr Aem VB [] Tryz.func130 OA0 [0]
def PA0 (c:Om):NS:=fun a=>mk (ArL (Av2 ((0+(Sj a.Bc))*40)) (c.bind fun b=>some ⟨a.BO,false,⟨ArK a⟩,b,[],[],0⟩))
def kL:NS:=PA0 WJ
theorem EBY:Q8 ctx PP 192 RD U8 (u1 kL):=ty0 u1 kL RD U8 [BAV] Tryz.func192 PA0
def QA0 (c:Om):DAh:=fun a=>mk (ArL (Av2 ((0+a.2.2.1.length)*40)) (c.bind fun b=>some ⟨a.1,false,⟨a.2.2.1⟩,b,[],[],0⟩))
def kN:DAh:=QA0 WJ
theorem FBY:Q8 ctx PP 192 AU7 U8 (u1 kN):=ty0 u1 kN AU7 U8 [BAV] Tryz.func192 QA0
inductive CAZ where
 |c0 (a:AA) (b:Bool) (d:AA) (e f:Int) (g:AA) (h i:Int) (j:AA) (l:Bool) (n:AA) (o p:Int) (q:AA) (t u:Int) (v:(List BQ)) (w:(List Af)) (x:(List EG)) (y:(List CS)) (aa:(List Int)) (ab:(List AA)) (ac:(List D8)) (ad:(List Ah)) (ae:(List BQ))
 |c1 (a:AA) (b:Bool) (d:AA) (e f:Int) (g:AA) (h i:Int) (j:AA) (l:Bool) (n:AA) (o p:Int) (q:AA) (t u:Int) (v:(List BQ)) (w:(List Af)) (x:(List EG)) (y:(List CS)) (aa:(List Int)) (ab:(List AA)) (ac:(List D8)) (ad:(List Ah)) (ae:(List BQ))
def GBY:CAZ->Avy
 |.c0 a b d e f g h i j l n o p q t u v w x y aa ab ac ad ae=>(tdo Tryz.f128 510,[vp 0 0,vp 6 384,vp 9 576],[(0,.var [.str a,.bool b,.own 1000002,.str d,li e,.own 1000005,li f,.str g,li h,.own 1000009,.own 1000010,li i,.own 1000012,.own 1000013,.own 1000014,.own 1000015]),(384,.var [.str j,.bool l,.any,.str n,li o,.any,li p,.str q,li t,.any,.any,li u]),(576,.var [.own 1036864]),(1000002,.sl 90 v),(1000005,.sl 76 w),(1000009,.sl 127 x),(1000010,.sl 157 y),(1000012,.sl 3 aa),(1000013,.sl 9 ab),(1000014,.sl 48 ac),(1000015,.sl 78 ad),(1036864,.sl 90 ae)])
 |.c1 a b d e f g h i j l n o p q t u v w x y aa ab ac ad ae=>(tdo Tryz.f128 510,[vp 0 0,vp 6 384,vp 9 576],[(0,.var [.str a,.bool b,.own 1000002,.str d,li e,.own 1000005,li f,.str g,li h,.own 1000009,.own 1000010,li i,.own 1000012,.own 1000013,.own 1000014,.own 1000015]),(384,.var [.str j,.bool l,.own 1000002,.str n,li o,.own 1000005,li p,.str q,li t,.own 1000009,.own 1000010,li u]),(576,.var [.own 1036864]),(1000002,.sl 90 v),(1000005,.sl 76 w),(1000009,.sl 127 x),(1000010,.sl 157 y),(1000012,.sl 3 aa),(1000013,.sl 9 ab),(1000014,.sl 48 ac),(1000015,.sl 78 ad),(1036864,.sl 90 ae)])
def FAl (h:XD) (i:dh) (l:XE) (m:XF) (n:qw) (o:NS×DAh) (q:Qj) (k:Aw7 CAZ Bg):Yn:=fun a e j=>mk ((h (Aq7 a) (ArH a) e).bind fun d=>(i a.AX.Bc d.1 1 j).bind fun c=>(l c.1 ArB).bind fun f=>(m (Aq7 a) f.1).bind fun g=>cond (Qs (Arb g.1) (ArH a)) ((n a e).bind fun b=>k (.c0 (Aq7 b) (Av0 b) (AwQ b) (Kr b) (Lm b) (Ku b) (ArH b) (ArM b) (Aq7 a) (Av0 a) (AwQ a) (Kr a) (Lm a) (Ku a) (ArH a) (ArM a) (Avm b) (ML b) (Aqp b) (Qp b) b.Bq (ArN b) b.Cm b.CO c.1.Ak)) (k (.c1 (Aq7 a) (Av0 a) (AwQ a) (Kr a) (Lm a) (Ku a) (ArH a) (ArM a) (Aq7 a) (Av0 a) (AwQ a) (Kr a) (Lm a) (Ku a) (ArH a) (ArM a) (Avm a) (ML a) (Aqp a) (Qp a) a.Bq (ArN a) a.Cm a.CO c.1.Ak)))
def kQ (a:XD) (b:dh) (c:XE) (d:XF) (e:qw) (f:NS×DAh) (h:Qj) (k:Aw7 CAZ Bg):Aw7 CAZ Bg
 |.c0 _ _ _ _ _ _ _ _ j l n o p q r s _ _ _ _ t u v w m=>mk ((f.2 (j,l,m,n,o,(),p,q,r,(),(),s)).bind fun i=>La (h ⟨i,t,u,v,w⟩ 10 IK))
 |.c1 _ _ _ _ _ _ _ _ j l n o q r s v _ p t u w x y z m=>mk ((f.1 ⟨j,l,⟨m⟩,⟨n,o,p,q,r,s⟩,t,u,v⟩).bind fun i=>La (h ⟨i,w,x,y,z⟩ 10 IK))
def Z9:AzH CAZ Bg
 |0,_=>none
 |m+1,s=>kQ oz vF kG kJ Xr (kL,kN) Vb (Z9 m) s
def Xt:Yn:=FAl oz vF kG kJ Xr (kL,kN) Vb (Z9 AY)
def HBY:Awe:=fy u3 Xt AUt VB [SBD,ZBX,FBF,GBF,HBF,fj u1 u1 EBY FBY,WAw] Tryz.func128 GBY kQ FAl Z9 [0]
def RA0 (d:MJ) (f:ZAg):JC:=fun b e=>mk ((d (DX b) e).bind fun a=>cond (!a.2) AwO (cond (a.1.Aj != 2) AwO ((f b a.1).bind fun c=>some c)))
def Vp:JC:=RA0 Ux tV
def IBY:Awe:=BI u2 Vp wU FN [GAV,HBE] Tryz.func129 RA0
def SA0 (c:Ql):NS:=fun a=>mk (ArL (Av2 ((0+(Sj a.Bc))*40)) ((c (DX a)).bind fun b=>ArL (Avw (0+(Fe a))) (ArL (Avw (0+(MI a))) (some ⟨a.BO,a.CZ,⟨ArK a⟩,b,Es a,He a,Ar7 a⟩))))
def Xv:NS:=SA0 Yg
def IBF:Awe:=BI u1 Xv RD U8 [GAv] Tryz.func36 SA0
inductive aB where
 |c0 (a:(List CS)) (b e f:Int) (d:(List CS))
 |c1 (a:(List CS)) (b g:Int) (d:(List CS))
def JBY:aB->Avy
 |.c0 a b e f d=>(tdo Tryz.f194 464,[vr 0 157 a,vi 1 b,vi 2 e,vo 7 496,vi 8 f],[(496,.sl 157 d)])
 |.c1 a b g d=>(tdo Tryz.f194 2000,[vr 0 157 a,vi 1 b,vo 7 496,vi 9 g],[(496,.sl 157 d)])
def TA0 (k:Aw7 aB (List CS)):EAh:=fun a b c=>k (.c0 a b c 0 [])
def kR (k:Aw7 aB (List CS)):Aw7 aB (List CS)
 |.c0 a c e b d=>mk (cond (Gm b a.length) (cond (AwI b a.length) (cond (Aqt (Pq a b).fId c) (cond (AwI b a.length) (cond (Avw (d.length+1)) (k (.c0 a c e (ArO b) (d++[Pq a b]))) none) none) (k (.c0 a c e (ArO b) d))) none) (cond (JD e) (cond (Avw (d.length+1)) (k (.c1 a c 0 (d++[(⟨c,e⟩:CS)]))) none) (k (.c1 a c 0 d))))
 |.c1 b d a c=>mk (cond (Gm a b.length) (cond (AwI a b.length) (cond (Qs (Pq b a).fId d) (cond (AwI a b.length) (cond (Avw (c.length+1)) (k (.c1 b d (ArO a) (c++[Pq b a]))) none) none) (k (.c1 b d (ArO a) c))) none) (some c))
def Ub:AzH aB (List CS)
 |0,_=>none
 |m+1,s=>kR (Ub m) s
def xB:EAh:=TA0 (Ub AY)
def KBY:Awe:=fy u3 xB Aen Aeo [] Tryz.func194 JBY kR TA0 Ub
inductive aC where
 |c0 (af:Int) (ag:Ap) (a:CV) (b:AA) (d:Bool) (e:AA) (f g:Int) (h:AA) (i j:Int) (l:AA) (n:Bool) (o:AA) (p q:Int) (t:AA) (u v:Int) (Ko:(List EG)) (w:(List BQ)) (x:(List Af)) (y:(List EG)) (aa:(List CS)) (ab:(List BQ)) (ac:(List Af)) (ad:(List EG)) (ae:(List CS))
 |c1 (ai:Int) (a:CV) (b:AA) (d:Bool) (e:AA) (f g:Int) (h:AA) (i j:Int) (l:AA) (n:Bool) (o:AA) (p q:Int) (t:AA) (u v:Int) (w:(List BQ)) (x:(List Af)) (y:(List EG)) (aa:(List CS)) (ab:(List BQ)) (ac:(List Af)) (ad:(List EG)) (ae:(List CS))
def LBY:aC->Avy
 |.c0 ag b a d e f g h i j l n o p q t u v w Ko x y aa ab ac ad ae af=>(tdo Tryz.f131 251728,[vp 4 256,vp 5 320,vp 8 512,vp 9 576,vo 10 688,vi 11 ag],[(256,.var [.str b.BO,.bool b.CZ,.BG 90 b.Bc.Ak,.str b.AU.Bv,li b.AU.DU,.BG 76 b.AU.AZ,li b.AU.BM,.str b.AU.Dh,li b.AU.fCount,.BG 127 b.BP,.BG 157 b.BD,li b.CW]),(320,.var [li a.Au,li a.EJ,li a.Ag,li a.Aj,.str a.fText,.bool a.CY,.bool a.CX]),(512,.var [.str d,.bool e,.own 1032770,.str f,li g,.own 1032773,li h,.str i,li j,.own 1032777,.own 1032778,li l]),(576,.var [.str n,.bool o,.own 1036866,.str p,li q,.own 1036869,li t,.str u,li v,.own 1036873,.own 1036874,li w]),(688,.sl 127 Ko),(1032770,.sl 90 x),(1032773,.sl 76 y),(1032777,.sl 127 aa),(1032778,.sl 157 ab),(1036866,.sl 90 ac),(1036869,.sl 76 ad),(1036873,.sl 127 ae),(1036874,.sl 157 af)])
 |.c1 ai a d e f g h i j l n o p q t u v w x y aa ab ac ad ae af=>(tdo Tryz.f131 251856,[vp 5 320,vp 8 512,vp 9 576,vi 12 ai],[(320,.var [li a.Au,li a.EJ,li a.Ag,li a.Aj,.str a.fText,.bool a.CY,.bool a.CX]),(512,.var [.str d,.bool e,.own 1032770,.str f,li g,.own 1032773,li h,.str i,li j,.own 1032777,.own 1032778,li l]),(576,.var [.str n,.bool o,.own 1036866,.str p,li q,.own 1036869,li t,.str u,li v,.own 1036873,.own 1036874,li w]),(1032770,.sl 90 x),(1032773,.sl 76 y),(1032777,.sl 127 aa),(1032778,.sl 157 ab),(1036866,.sl 90 ac),(1036869,.sl 76 ad),(1036873,.sl 127 ae),(1036874,.sl 157 af)])
def UA0 (i:NS) (l:MJ) (g:EAh) (k:Aw7 aC Ap):Yo:=fun c b j e=>mk ((i c).bind fun a=>cond (j != 0) (some a) (cond (b.Au == 1) (ArL (Avw ((Fe a)+1)) (some ⟨a.BO,a.CZ,a.Bc,DX a,(Es a)++[(⟨ArO (Ar7 c),false⟩:EG)],He a,ArO (Ar7 c)⟩)) (cond (b.Au == 13) (k (.c0 0 c b IK false IK 0 0 IK 0 0 a.BO a.CZ (DX a).Bv (Aqa a) (Aqk a) (Aql (DX a)) (Qm a) (Ar7 a) [] [] [] [] [] (ArK a) (DC (DX a)) (Es a) (He a))) (cond (b.Au == 2) (k (.c1 0 b IK false IK 0 0 IK 0 0 a.BO a.CZ (DX a).Bv (Aqa a) (Aqk a) (Aql (DX a)) (Qm a) (Ar7 a) [] [] [] [] (ArK a) (DC (DX a)) (Es a) (He a))) (cond (b.Au == 5) ((l (DX c) b.Ag).bind fun d=>cond d.2 (cond (d.1.Aj == 2) (cond (JD e) (cond (Aqt e d.1.fNext) ((g (He c) d.1.fId (ArO e)).bind fun f=>some ⟨a.BO,a.CZ,a.Bc,DX a,Es a,f,Ar7 a⟩) (some a)) (some a)) (some a)) (some a)) (cond (b.Au == 9) ((g (He c) b.Ag (-Aq4)).bind fun h=>some ⟨a.BO,a.CZ,a.Bc,DX a,Es a,h,Ar7 a⟩) (some a)))))))
def kT (a:NS) (b:MJ) (c:EAh) (k:Aw7 aC Ap):Aw7 aC Ap
 |.c0 d e g t u v w x y z A h i j l m n o p f B C D E q r F s=>mk (cond (Gm d (Fe e)) (cond (AwI d (Fe e)) (cond ((Ap7 (Es e) d ⟨0,false⟩).fId != (ArX g)) (cond (AwI d (Fe e)) (cond (Avw (f.length+1)) (k (.c0 (ArO d) e g t u v w x y z A h i j l m n o p (f++[Ap7 (Es e) d ⟨0,false⟩]) B C D E q r F s)) none) none) (k (.c0 (ArO d) e g t u v w x y z A h i j l m n o p f B C D E q r F s))) none) (some ⟨h,i,⟨q⟩,⟨j,l,r,m,n,o⟩,f,s,p⟩))
 |.c1 d f s t u v w x y z g h i j l m n o A B C D p q e r=>mk (cond (Gm d e.length) (cond (AwI d e.length) (cond (Ap7 e d ⟨0,false⟩).QW (cond (AwI d e.length) (k (.c1 (ArO d) f s t u v w x y z g h i j l m n o A B C D p q (e.set (BN d) (⟨(Ap7 e d ⟨0,false⟩).fId,true⟩:EG)) r)) none) (cond (AwI d e.length) (cond (AwI d e.length) (k (.c1 (ArO d) f s t u v w x y z g h i j l m n o A B C D p q (e.set (BN d) (⟨(Ap7 e d ⟨0,false⟩).fId,(Ap7 e d ⟨0,false⟩).fId == (ArX f)⟩:EG)) r)) none) none)) none) (some ⟨g,h,⟨p⟩,⟨i,j,q,l,m,n⟩,e,r,o⟩))
def Vq:AzH aC Ap
 |0,_=>none
 |m+1,s=>kT Xv Ux xB (Vq m) s
def Uc:Yo:=UA0 Xv Ux xB (Vq AY)
def MBY:Awe:=fy u4 Uc AUu U8 [IBF,GAV,KBY] Tryz.func131 LBY kT UA0 Vq
inductive EAZ where
 |c0 (a b:Int) (d:AA) (e f:Int) (g:AA) (h:Bool) (i:AA) (j l:Int) (n:AA) (o p:Int) (q:DW) (t:(List Ah)) (u:(List BQ)) (v:(List Af)) (w:(List EG)) (x:(List CS)) (y:(List Int)) (aa:(List AA)) (ab:(List D8)) (ac:(List Ah))
def NBY:EAZ->Avy
 |.c0 b d e f g h i j l n o p q a t u v w x y aa ab ac=>(tdo Tryz.f76 4048,[vp 0 0,vi 1 b,vp 5 320,vo 6 432,vi 7 d,vs 8 e,vi 9 f,vi 10 g],[(0,.var [.str h,.bool i,.own 1000002,.str j,li l,.own 1000005,li n,.str o,li p,.own 1000009,.own 1000010,li q,.own 1000012,.own 1000013,.own 1000014,.own 1000015]),(320,.var [li a.BA.Au,li a.BA.EJ,li a.BA.Ag,li a.BA.Aj,.str a.BA.fText,.bool a.BA.CY,.bool a.BA.CX,.bool a.Nr,.BG 3 a.Lc,.bool a.JY]),(432,.sl 78 t),(1000002,.sl 90 u),(1000005,.sl 76 v),(1000009,.sl 127 w),(1000010,.sl 157 x),(1000012,.sl 3 y),(1000013,.sl 9 aa),(1000014,.sl 48 ab),(1000015,.sl 78 ac)])
def kU (d:Qj) (i:Jl) (j:Yn) (f:JC) (l:WAT) (m:AwA) (n:qw) (o:Yo) (k:Aw7 EAZ Bg):XH:=fun a g c=>mk (cond (!(Av0 a)) (La (d a 9 ⟨#[100,111,119,110]⟩)) (cond ((ArH a)>=10000) (La (d a 9 ⟨#[100,111,119,110]⟩)) ((i a.AX c.BA).bind fun b=>cond c.Nr (cond (Avi (Arb b.1)) (cond (RI DI (Arb b.1)) (La (j a (b.1.getD (BN DI) (⟨0,IK,0,⟨0,0,false,false,false,false,IK,0⟩⟩:Ah)) c.Lc)) none) ((f a.AX c.BA.Ag).bind fun e=>k (.c0 g b.2.1 b.2.2 e 0 (Aq7 a) (Av0 a) (AwQ a) (Kr a) (Lm a) (Ku a) (ArH a) (ArM a) c b.1 (Avm a) (ML a) (Aqp a) (Qp a) a.Bq (ArN a) a.Cm a.CO))) ((f a.AX c.BA.Ag).bind fun h=>k (.c0 g b.2.1 b.2.2 h 0 (Aq7 a) (Av0 a) (AwQ a) (Kr a) (Lm a) (Ku a) (ArH a) (ArM a) c b.1 (Avm a) (ML a) (Aqp a) (Qp a) a.Bq (ArN a) a.Cm a.CO)))))
def GAl (a:Qj) (b:Jl) (c:Yn) (d:JC) (e:WAT) (f:AwA) (g:qw) (h:Yo) (k:Aw7 EAZ Bg):Aw7 EAZ Bg
 |.c0 J n r w j u F A B D E v I s l y C G H o p m q=>mk (cond (Gm j l.length) (cond (AwI j l.length) ((e u ⟨y⟩ v (Yp l j IK ⟨0,0,false,false,false,false,IK,0⟩)).bind fun x=>cond (AwI j l.length) ((f ⟨A,B,C,D,E,v⟩ (Yp l j IK ⟨0,0,false,false,false,false,IK,0⟩)).bind fun z=>cond (AwI j l.length) ((g ⟨⟨u,F,x,z.1,G,H,I⟩,o,p,m,q⟩ (Yp l j IK ⟨0,0,false,false,false,false,IK,0⟩)).bind fun i=>k (.c0 J n r w (ArO j) (Aq7 i) (Av0 i) (AwQ i) (Kr i) (Lm i) (Ku i) (ArH i) (ArM i) s l (Avm i) (ML i) (Aqp i) (Qp i) i.Bq (ArN i) i.Cm i.CO)) none) none) none) ((h ⟨u,F,⟨y⟩,⟨A,B,C,D,E,v⟩,G,H,I⟩ s.BA n w).bind fun t=>cond (s.BA.Au == 5) (cond (Aq6 n) (cond (Av2 ((0+m.length)*24)) (cond (Av2 ((m.length+1)*24)) (La (a ⟨t,o,p,m++[(⟨s.BA.Ag,w,J⟩:D8)],q⟩ n r)) none) none) (La (a ⟨t,o,p,m,q⟩ n r))) (La (a ⟨t,o,p,m,q⟩ n r))))
def kV:AzH EAZ Bg
 |0,_=>none
 |m+1,s=>GAl Vb PK Xt Vp aF Arj Xr Uc (kV m) s
def Ud:XH:=kU Vb PK Xt Vp aF Arj Xr Uc (kV AY)
def OBY:Awe:=fy u3 Ud AUv VB [WAw,WBX,HBY,IBY,VBD,KAv,HBF,MBY] Tryz.func76 NBY GAl kU kV [0]
inductive FAZ where
 |c0 (a:Int) (b d:Bo)
def PBY:FAZ->Avy
 |.c0 d a b=>(tdo Tryz.f51 464,[vp 2 128,vp 3 192,vi 5 d],[(128,.var [.str a.Bv,li a.DU,.BG 76 a.AZ,li a.BM,.str a.Dh,li a.fCount]),(192,.var [.str b.Bv,li b.DU,.BG 76 b.AZ,li b.BM,.str b.Dh,li b.fCount])])
def VA0 (k:Aw7 FAZ Bool):ZA:=fun a b=>mk (cond (!(Avd a.Bv b.Bv)) (some false) (cond (a.DU != b.DU) (some false) (cond (a.BM != b.BM) (some false) (cond (!(Avd (Aql a) (Aql b))) (some false) (cond (a.fCount != b.fCount) (some false) (cond ((Lu a) != (Lu b)) (some false) (k (.c0 0 a b))))))))
def HAl (k:Aw7 FAZ Bool):Aw7 FAZ Bool
 |.c0 a b c=>mk (cond (Gm a (Ig b)) (cond (AwI a (Ig b)) (cond (AwI a (Ig c)) (cond (!(((AwS (DC b) a ⟨0,0,false,false,false,false,IK,0⟩).fId == (AwS (DC c) a ⟨0,0,false,false,false,false,IK,0⟩).fId) && (((AwS (DC b) a ⟨0,0,false,false,false,false,IK,0⟩).Aj == (AwS (DC c) a ⟨0,0,false,false,false,false,IK,0⟩).Aj) && (((AqD (AwS (DC b) a ⟨0,0,false,false,false,false,IK,0⟩)) == (AqD (AwS (DC c) a ⟨0,0,false,false,false,false,IK,0⟩))) && (((FK (AwS (DC b) a ⟨0,0,false,false,false,false,IK,0⟩)) == (FK (AwS (DC c) a ⟨0,0,false,false,false,false,IK,0⟩))) && (((Me (AwS (DC b) a ⟨0,0,false,false,false,false,IK,0⟩)) == (Me (AwS (DC c) a ⟨0,0,false,false,false,false,IK,0⟩))) && (((ArU (AwS (DC b) a ⟨0,0,false,false,false,false,IK,0⟩)) == (ArU (AwS (DC c) a ⟨0,0,false,false,false,false,IK,0⟩))) && ((Avd (Td (AwS (DC b) a ⟨0,0,false,false,false,false,IK,0⟩)) (Td (AwS (DC c) a ⟨0,0,false,false,false,false,IK,0⟩))) && (((AwS (DC b) a ⟨0,0,false,false,false,false,IK,0⟩).fNext == (AwS (DC c) a ⟨0,0,false,false,false,false,IK,0⟩).fNext) && true))))))))) (some false) (k (.c0 (ArO a) b c))) none) none) (some true))
def kW:AzH FAZ Bool
 |0,_=>none
 |m+1,s=>HAl (kW m) s
def xE:ZA:=VA0 (kW AY)
def QBY:Awe:=fy u2 xE AUw E8 [] Tryz.func51 PBY HAl VA0 kW
inductive HAZ where
 |c0 (a:(List Ah)) (b:Int) (d:AA) (e f:Int) (g:AA) (h:Int) (i:AA) (j l:Int) (n:AA) (o:Int) (p q:(List Af))
def RBY:HAZ->Avy
 |.c0 a b d e f g h i j l n o p q=>(tdo Tryz.f49 464,[vr 1 78 a,vp 4 256,vp 6 384,vi 7 b],[(256,.var [.str d,li e,.own 1016386,li f,.str g,li h]),(384,.var [.str i,li j,.own 1024578,li l,.str n,li o]),(1016386,.sl 76 p),(1024578,.sl 76 q)])
def WA0 (b:Ql) (e:AwA) (k:Aw7 HAZ (Bo×Bool)):qx:=fun c d=>mk ((b c).bind fun a=>k (.c0 d 0 IK 0 0 IK 0 a.Bv a.DU a.BM (Aql a) a.fCount [] (DC a)))
def IAl (a:Ql) (b:AwA) (k:Aw7 HAZ (Bo×Bool)):Aw7 HAZ (Bo×Bool)
 |.c0 e d m n o p q f g i j l r h=>mk (cond (Gm d e.length) (cond (AwI d e.length) ((b ⟨f,g,h,i,j,l⟩ (Yp e d IK ⟨0,0,false,false,false,false,IK,0⟩)).bind fun c=>cond (!c.2) (some (AwT,false)) (k (.c0 e (ArO d) m n o p q c.1.Bv c.1.DU c.1.BM (Aql c.1) c.1.fCount r (DC c.1)))) none) (some (⟨f,g,h,i,j,l⟩,true)))
def kX:AzH HAZ (Bo×Bool)
 |0,_=>none
 |m+1,s=>IAl Yg Arj (kX m) s
def JAl:qx:=WA0 Yg Arj (kX AY)
def SBY:Awe:=fy u2 JAl AUx AEm [GAv,KAv] Tryz.func49 RBY IAl WA0 kX
def XA0 (h:MH) (i:XE) (j:XF) (m:Om) (n:qx) (o:Aqr):VI:=fun l d=>mk ((h d).bind fun e=>cond (!e) (some (AwT,[],false)) ((i d ArB).bind fun a=>(j l a.1).bind fun b=>m.bind fun f=>(n f b.1).bind fun c=>cond (!c.2) (some (AwT,[],false)) ((o d AsD).bind fun g=>cond (JD g) (cond (Aqt b.2 (TT a.1)) (cond (GK b.2 (TT a.1)) (some (c.1,FAu a.1 b.2,true)) none) (some (c.1,[⟨4,AsD,IK,IK⟩],true))) (cond (Aqt b.2 (TT a.1)) (cond (GK b.2 (TT a.1)) (some (c.1,[⟨1,AsD,P5 a.1 b.2,IK⟩,⟨2,AsD,IK,IK⟩,⟨3,AsD,IK,ArB⟩],true)) none) (some (c.1,[],true))))))
def kY:VI:=XA0 WM kG kJ WJ JAl o9
def JBF:Awe:=BI u2 kY AUy AUz [AIN,FBF,GBF,BAV,SBY,ARH] Tryz.func52 XA0
inductive IAZ where
 |c0 (a:Int) (b:Ap)
def TBY:IAZ->Avy
 |.c0 b a=>(tdo Tryz.f87 208,[vp 1 64,vi 3 b],[(64,.var [.str a.BO,.bool a.CZ,.BG 90 a.Bc.Ak,.str a.AU.Bv,li a.AU.DU,.BG 76 a.AU.AZ,li a.AU.BM,.str a.AU.Dh,li a.AU.fCount,.BG 127 a.BP,.BG 157 a.BD,li a.CW])])
def YA0 (b:MJ) (c:AqW) (k:Aw7 IAZ Bool):Ot:=fun a=>k (.c0 0 a)
def KAl (a:MJ) (b:AqW) (k:Aw7 IAZ Bool):Aw7 IAZ Bool
 |.c0 c d=>mk (cond (Gm c (MI d)) (cond (AwI c (MI d)) ((a (DX d) (Pq (He d) c).fId).bind fun e=>cond (!e.2) (some false) (cond (e.1.Aj != 2) (some false) (cond (AwI c (MI d)) ((b (Pq (He d) c).fNext 0 e.1.fNext).bind fun f=>cond (!f) (some false) (cond (Avi c) (cond (AwE (Lr c) (MI d:Int)) (cond (AwI c (MI d)) (cond (VN ((He d).getD (Aqq (c - 1)) SAh).fId (Pq (He d) c).fId) (some false) (k (.c0 (ArO c) d))) none) none) (k (.c0 (ArO c) d)))) none))) none) (some true))
def kZ:AzH IAZ Bool
 |0,_=>none
 |m+1,s=>KAl Ux Arz (kZ m) s
def xG:Ot:=YA0 Ux Arz (kZ AY)
def UBY:Awe:=fy u1 xG RD E8 [GAV,JV] Tryz.func87 TBY KAl YA0 kZ
inductive KAZ where
 |c0 (a:Int) (b:Ap)
def VBY:KAZ->Avy
 |.c0 b a=>(tdo Tryz.f44 464,[vp 1 64,vi 3 b],[(64,.var [.str a.BO,.bool a.CZ,.BG 90 a.Bc.Ak,.str a.AU.Bv,li a.AU.DU,.BG 76 a.AU.AZ,li a.AU.BM,.str a.AU.Dh,li a.AU.fCount,.BG 127 a.BP,.BG 157 a.BD,li a.CW])])
def ZA0 (d:MH) (e:AqW) (f:Om) (g:ZA) (h:VI) (i:AqC) (j:Ot) (k:Aw7 KAZ Bool):Ot:=fun a=>mk (cond ((TT a.BO) != 32) (some false) ((d a.Bc).bind fun b=>cond (!b) (some false) (cond ((Fe a:Int) > 3) (some false) ((e (Ar7 a) 0 1000).bind fun c=>cond (!c) (some false) (k (.c0 0 a))))))
def LAl (a:MH) (b:AqW) (c:Om) (d:ZA) (e:VI) (f:AqC) (g:Ot) (k:Aw7 KAZ Bool):Aw7 KAZ Bool
 |.c0 i h=>mk (cond (Gm i (Fe h)) (cond (AwI i (Fe h)) ((b (Ap7 (Es h) i ⟨0,false⟩).fId 1 (Ar7 h)).bind fun l=>cond (!l) (some false) (cond (Avi i) (cond (AwE (Lr i) (Fe h:Int)) (cond (AwI i (Fe h)) (cond (VN ((Es h).getD (Aqq (i - 1)) (⟨0,false⟩:EG)).fId (Ap7 (Es h) i ⟨0,false⟩).fId) (some false) (k (.c0 (ArO i) h))) none) none) (k (.c0 (ArO i) h)))) none) (C9 (!h.CZ) (C9 (Aq6 (Fe h:Int)) (C9 (Aq6 (MI h:Int)) (c.bind fun m=>WU (d (DX h) m)) (some false)) (some false)) ((e h.BO h.Bc).bind fun j=>C9 j.2.2 (C9 (Aq6 (Qi j.2.1)) (Sl (f (DX h)) (Sl (d j.1 (DX h)) (WU (g h)) (some false)) (some false)) (some false)) (some false))))
def ku:AzH KAZ Bool
 |0,_=>none
 |m+1,s=>LAl WM Arz WJ xE kY dN xG (ku m) s
def MAl:Ot:=ZA0 WM Arz WJ xE kY dN xG (ku AY)
def WBY:Awe:=fy u1 MAl RD E8 [AIN,JV,BAV,QBY,JBF,LBD,UBY] Tryz.func44 VBY LAl ZA0 ku
def AMV (e:Ot) (f:VI) (g:U5):qy:=fun a=>mk (cond a.CZ (some (⟨IK,false,IZ,AwT,[],[],0⟩,false)) ((e a).bind fun d=>cond (!d) (some (⟨IK,false,IZ,AwT,[],[],0⟩,false)) ((f a.BO a.Bc).bind fun b=>(g a.Bc b.2.1).bind fun c=>cond (!b.2.2) (some (⟨IK,false,IZ,AwT,[],[],0⟩,false)) (cond (Aqt c.2 (Qi b.2.1)) (some (⟨IK,false,IZ,AwT,[],[],0⟩,false)) (some (⟨a.BO,true,c.1,b.1,[],[],0⟩,true))))))
def xH:qy:=AMV MAl kY pJ
def XBY:Awe:=BI u1 xH RD AEn [WBY,JBF,FAw] Tryz.func77 AMV
def NAl (e:XH) (g:qy) (d:Qj):XH:=fun a f c=>mk (cond (!c.JY) (La (e a f c)) ((g a.AX).bind fun b=>cond (!b.2) (La (d a 1 IK)) (La (d ⟨b.1,a.Bq,ArN a,a.Cm,a.CO⟩ 0 IK))))
def Q7:XH:=NAl Ud xH Vb
def KBF:Awe:=BI u3 Q7 AUv VB [OBY,XBY,WAw] Tryz.func35 NAl [0]
inductive MAZ where
 |c0 (a b:Int) (d e:Int) (f g:AA) (h i j:AA) (l:Bool) (n:AA) (o p:Int) (q:AA) (t u:Int) (v w:(List DW)) (x:(List BQ)) (y:(List Af)) (aa:(List EG)) (ab:(List CS)) (ac:(List Int)) (ad:(List AA)) (ae:(List D8)) (af:(List Ah))
def YBY:MAZ->Avy
 |.c0 a b d e f g h i j l n o p q t u v w x y aa ab ac ad ae af=>(tdo Tryz.f26 4048,[vp 0 0,vp 4 256,vp 5 320,vp 6 384,vi 8 a,vi 9 b],[(0,.var [.J4,li d,li e]),(256,.var [.str f,.str g,.own 1016386]),(320,.var [.str h,.str i,.own 1020482]),(384,.var [.str j,.bool l,.own 1024578,.str n,li o,.own 1024581,li p,.str q,li t,.own 1024585,.own 1024586,li u,.own 1024588,.own 1024589,.own 1024590,.own 1024591]),(1016386,.sl 72 v),(1020482,.sl 72 w),(1024578,.sl 90 x),(1024581,.sl 76 y),(1024585,.sl 127 aa),(1024586,.sl 157 ab),(1024588,.sl 3 ac),(1024589,.sl 9 ad),(1024590,.sl 48 ae),(1024591,.sl 78 af)])
def BA1 (d:Uz) (f:Yt) (g:qJ) (h:YAg) (i:XH) (k:Aw7 MAZ (PO×DZ)):JAt:=fun e j=>mk ((d (Arp e) 3).bind fun b=>(f 32 (w8 (Ad (75+b.1)))).bind fun c=>(g c ⟨#[119]⟩).bind fun a=>cond ((Ad (8+(Ad ((AsC KI).tdiv 12)))) > 39) (k (.c0 39 0 b.2.fI b.2.AyA IK IK c ⟨#[119]⟩ (Aq7 a.1) (Av0 a.1) (AwQ a.1) (Kr a.1) (Lm a.1) (Ku a.1) (ArH a.1) (ArM a.1) [] [] (Avm a.1) (ML a.1) (Aqp a.1) (Qp a.1) a.1.Bq (ArN a.1) a.1.Cm a.1.CO)) (k (.c0 (Ad (8+(Ad ((AsC KI).tdiv 12)))) 0 b.2.fI b.2.AyA IK IK c ⟨#[119]⟩ (Aq7 a.1) (Av0 a.1) (AwQ a.1) (Kr a.1) (Lm a.1) (Ku a.1) (ArH a.1) (ArM a.1) [] [] (Avm a.1) (ML a.1) (Aqp a.1) (Qp a.1) a.1.Bq (ArN a.1) a.1.Cm a.1.CO)))
def OAl (a:Uz) (b:Yt) (c:qJ) (d:YAg) (e:XH) (k:Aw7 MAZ (PO×DZ)):Aw7 MAZ (PO×DZ)
 |.c0 l i o p q r m n t u w x z A B E s j v y C D F G H I=>mk (cond (Aqt i l) ((d ⟨(),o,p⟩ ⟨⟨t,u,⟨v⟩,⟨w,x,y,z,A,B⟩,C,D,E⟩,F,G,H,I⟩).bind fun h=>cond ((TT h.1.BA.fText) > 1000) ((e h.2.2 i (BAu h)).bind fun f=>cond (Av2 ((j.length+1)*96)) (k (.c0 l (ArO i) h.2.1.fI h.2.1.AyA q r m n (Aq7 f) (Av0 f) (AwQ f) (Kr f) (Lm f) (Ku f) (ArH f) (ArM f) s (j++[(BAu h:DW)]) (Avm f) (ML f) (Aqp f) (Qp f) f.Bq (ArN f) f.Cm f.CO)) none) ((e h.2.2 i h.1).bind fun g=>cond (Av2 ((j.length+1)*96)) (k (.c0 l (ArO i) h.2.1.fI h.2.1.AyA q r m n (Aq7 g) (Av0 g) (AwQ g) (Kr g) (Lm g) (Ku g) (ArH g) (ArM g) s (j++[h.1]) (Avm g) (ML g) (Aqp g) (Qp g) g.Bq (ArN g) g.Cm g.CO)) none)) (some (⟨m,n,j⟩,⟨(),o,p⟩)))
def X0:AzH MAZ (PO×DZ)
 |0,_=>none
 |m+1,s=>OAl PD dB aJ sZ Q7 (X0 m) s
def PAl:JAt:=BA1 PD dB aJ sZ Q7 (X0 AY)
def ZBY:Awe:=fy u2 PAl Aep Aeq [fM,YBC,WBD,MBU,KBF] Tryz.func26 YBY OAl BA1 X0 [0]
def CA1 (c:XAs) (d:JAt):FAh:=fun e=>mk ((c ()).bind fun b=>(d (Arp b) ()).bind fun a=>some (a.1.BO,a.1.Bv,a.1.wG))
def xR:FAh:=CA1 CAi PAl
def AkX:Awe:=BI u1 xR wY Aer [RBS,ZBY] Tryz.func7 CA1
def LBF:Aqy:=mk (Ej DAu)
def DA1:Aqy:=LBF
def BBZ:Awe:=BI u0 DA1 Yc AEe [] Tryz.func63 LBF
def EA1:Bl:=fun a=>mk (Arm ((UAh a) && (Av2 ((BN a)*1))) (AsF (Arv a)))
def X7:Bl:=EA1
def QAl:Awe:=BI u1 X7 FN Cc [] Tryz.func89 EA1
def FA1:Bl:=fun a=>mk (AsF [w8 (VK a (24:Int)),w8 (VK a (16:Int)),w8 (VK a (8:Int)),w8 a])
def WO:Bl:=FA1
def RAl:Awe:=BI u1 WO UG Cc [] Tryz.func110 FA1
def GA1 (c:Bl):Bl:=fun d=>mk ((c (w32 (OG d (Ar6 (32:Int))))).bind fun a=>(c (w32 d)).bind fun b=>Arm (KZ a b) (some (a++b)))
def SAl:Bl:=GA1 WO
def CBZ:Awe:=BI u1 SAl FN Cc [RAl] Tryz.func109 GA1
def IA1 (d e:Bl):Bl:=fun c=>mk ((d ((Ad (119 - (c.tmod 64))).tmod 64)).bind fun a=>Arm (KZ (Ap1 ⟨#[128]⟩) a) ((e (Ad (8*c))).bind fun b=>Arm (Gx (Ap1 ⟨#[128]⟩) a b) (some (((Ap1 ⟨#[128]⟩)++a)++b))))
def TAl:Bl:=IA1 X7 SAl
def DBZ:Awe:=BI u1 TAl FN Cc [QAl,CBZ] Tryz.func64 IA1
def JA1:FX:=fun b a=>mk (cond (KD (Eb (32 - (VAh a)))) (some (w32 (ZG Em (w32 (b*(MV (BN (VAh a)) Em))) (VK b (Eb (32 - (VAh a))))))) none)
def UAl:FX:=JA1
def EBZ:Awe:=BI u2 UAl AU0 UG [] Tryz.func221 JA1
def KA1 (b:FX):FX:=fun c d=>mk ((b c (Ad (0 - d))).bind fun a=>some a)
def ArY:FX:=KA1 UAl
def MBF:Awe:=BI u2 ArY AU0 UG [EBZ] Tryz.func159 KA1
inductive OAZ where
 |c0 (d:AA) (e:Int) (a b:(List Int))
 |c1 (d:AA) (f e g:Int) (a b:(List Int))
 |c2 (h:Int) (a b:(List Int))
def FBZ:OAZ->Avy
 |.c0 d e a b=>(tdo Tryz.f158 232,[vs 0 d,vp 2 128,vp 3 192,vi 11 e],[(128,.ar 108 a),(192,.ar 108 b)])
 |.c1 d f e g a b=>(tdo Tryz.f158 59800,[vs 0 d,vp 2 128,vp 3 192,vi 4 f,vi 11 e,vi 14 g],[(128,.ar 108 a),(192,.ar 108 b)])
 |.c2 h a b=>(tdo Tryz.f158 976,[vp 2 128,vp 3 192,vi 6 h],[(128,.ar 108 a),(192,.ar 108 b)])
def LA1 (b:FX) (k:Aw7 OAZ (List Int)):Hw:=fun a=>mk (k (.c0 a 0 (List.replicate 64 DI) (List.replicate 64 DI)))
def Yj (a:FX) (k:Aw7 OAZ (List Int)):Aw7 OAZ (List Int)
 |.c0 e b c d=>mk (cond (b<16) (k (.c1 e b b 0 c d)) (k (.c2 16 c d)))
 |.c1 e c f d g b=>mk (cond (d<4) (cond (Avu b) (cond (Dt c b) (cond (AwE (Fb (Ad (4*c)) d) (TT e)) (cond (Avu b) (cond (Dt c b) (k (.c1 e c f (ArO d) g (b.set (BN c) (w32 (ZG Em (w32 ((GZ b c)*(MV (BN (8:Int)) Em))) (w32 (bt e (Fb (Ad (4*c)) d)))))))) none) none) none) none) none) (k (.c0 e (ArO f) g b)))
 |.c2 c h b=>mk (cond (c<64) (cond (Avu b) (cond (EZ (c - 15) b) (cond (Avu b) (cond (EZ (c - 2) b) ((a (Ld b (c - 15)) 7).bind fun d=>(a (Ld b (c - 15)) 18).bind fun e=>(a (Ld b (c - 2)) 17).bind fun f=>(a (Ld b (c - 2)) 19).bind fun g=>cond (Avu b) (cond (EZ (c - 7) b) (cond (Avu b) (cond (EZ (c - 16) b) (cond (Avu b) (cond (Dt c b) (k (.c2 (ArO c) h (b.set (BN c) (w32 ((w32 ((w32 ((OJ Em (OJ Em f g) (OG (Ld b (c - 2)) (MV (BN (10:Int)) Em)))+(Ld b (c - 7))))+(OJ Em (OJ Em d e) (OG (Ld b (c - 15)) (MV (BN (3:Int)) Em)))))+(Ld b (c - 16))))))) none) none) none) none) none) none) none) none) none) none) (AwM (Avu b) (AwM ((Rk b h) && (Avu b)) (AwM ((Avu b) && true) (Ej b)))))
def Av7:AzH OAZ (List Int)
 |0,_=>none
 |m+1,s=>Yj ArY (Av7 m) s
def zN:Hw:=LA1 ArY (Av7 AY)
def GBZ:Awe:=fy u1 zN Cc AEe [MBF] Tryz.func158 FBZ Yj LA1 Av7
inductive QAZ where
 |c0 (d e:Int) (f g:Int) (h i:Int) (j l n:Int) (a b o:(List Int))
 |c1 (p:Int) (a b q:(List Int))
def HBZ:QAZ->Avy
 |.c0 d e f g h i j l n a b o=>(tdo Tryz.f108 488,[vp 2 128,vp 4 256,vp 5 320,(6,[.one (.int .u32 d)]),(7,[.one (.int .u32 e)]),(8,[.one (.int .u32 f)]),(9,[.one (.int .u32 g)]),(10,[.one (.int .u32 h)]),(11,[.one (.int .u32 i)]),(12,[.one (.int .u32 j)]),(13,[.one (.int .u32 l)]),vi 37 n],[(128,.ar 108 a),(256,.ar 108 b),(320,.ar 108 o)])
 |.c1 p a b q=>(tdo Tryz.f108 2024,[vp 2 128,vp 4 256,vp 17 1088,vi 109 p],[(128,.ar 108 a),(256,.ar 108 b),(1088,.ar 108 q)])
def MA1 (c:Hw) (e:FX) (k:Aw7 QAZ (List Int)):GAh:=fun a d=>mk ((c d).bind fun b=>cond ((Rk b (List.replicate 64 DI)) && (Avu b)) (cond (JF a) (cond (AwG a) (cond (JF a) (cond (SAU (AsC a)) (cond (JF a) (cond (OAU (AsC a)) (cond (JF a) (cond ((Avv DI (3:Int)) && (decide (3<(AsC a)))) (cond (JF a) (cond (PAU a) (cond (JF a) (cond ((Avv DI (5:Int)) && (decide (5<(AsC a)))) (cond (JF a) (cond ((Avv DI (6:Int)) && (decide (6<(AsC a)))) (cond (JF a) (cond ((Avv DI (7:Int)) && (decide (7<(AsC a)))) (k (.c0 (GZ a DI) (GZ a Aq4) (GZ a (2:Int)) (GZ a (3:Int)) (GZ a LC) (GZ a (5:Int)) (GZ a (6:Int)) (GZ a (7:Int)) 0 a [0,0,0,0,0,0,0,0] b)) none) none) none) none) none) none) none) none) none) none) none) none) none) none) none) none) none)
def zO (a:Hw) (b:FX) (k:Aw7 QAZ (List Int)):Aw7 QAZ (List Int)
 |.c0 e i j s d g h o c t u f=>mk (cond (c<64) ((b d 6).bind fun l=>(b d 11).bind fun m=>(b d 25).bind fun n=>cond (AwI c (64:Nat)) (cond (Nat.blt (BN c) 64) (cond (Avu f) (cond (Dt c f) ((b e 2).bind fun p=>(b e 13).bind fun q=>(b e 22).bind fun r=>k (.c0 (w32 ((w32 ((w32 ((w32 ((w32 (o+(OJ Em (OJ Em l m) n)))+(fD (Avx Em d g) (Avx Em (w32 ((BitVec.toNat ((BitVec.ofInt Em (ite ((IntKind.signed IntKind.u32) = true) (-Aq4) (IntKind.max IntKind.u32))) ^^^ (BitVec.ofInt Em d)):Nat):Int)) h))))+(GZ VAt c)))+(GZ f c)))+(w32 ((OJ Em (OJ Em p q) r)+(fD (Ie Em (w32 (Avx Em e i)) (w32 (Avx Em e j))) (Avx Em i j)))))) e i j (w32 (s+(w32 ((w32 ((w32 ((w32 (o+(OJ Em (OJ Em l m) n)))+(fD (Avx Em d g) (Avx Em (w32 ((BitVec.toNat ((BitVec.ofInt Em (ite ((IntKind.signed IntKind.u32) = true) (-Aq4) (IntKind.max IntKind.u32))) ^^^ (BitVec.ofInt Em d)):Nat):Int)) h))))+(GZ VAt c)))+(GZ f c))))) d g h (ArO c) t u f)) none) none) none) none) (k (.c1 0 t u [e,i,j,s,d,g,h,o])))
 |.c1 d e f c=>mk (cond (d<8) (cond (JF c) (cond (Dt d c) (cond (JF e) (cond (Dt d e) (cond (JF c) (cond (Dt d c) (k (.c1 (ArO d) e f (c.set (BN d) (w32 ((GZ c d)+(GZ e d)))))) none) none) none) none) none) none) (AwM (JF c) (AwM ((Rk c f) && (JF c)) (AwM ((JF c) && true) (Ej c)))))
def ArR:AzH QAZ (List Int)
 |0,_=>none
 |m+1,s=>zO zN ArY (ArR m) s
def zQ:GAh:=MA1 zN ArY (ArR AY)
def IBZ:Awe:=fy u2 zQ AKl AEe [GBZ,MBF] Tryz.func108 HBZ zO MA1 ArR
inductive TAZ where
 |c0 (a:AA) (b d:(List Int))
def JBZ:TAZ->Avy
 |.c0 a b d=>(tdo Tryz.f62 96,[vs 1 a,vp 2 128,vp 4 256],[(128,.ar 108 b),(256,.ar 108 d)])
def NA1 (c:GAh) (k:Aw7 TAZ (List Int×AA)):KAt:=fun b a=>k (.c0 a b [0,0,0,0,0,0,0,0])
def VAl (a:GAh) (k:Aw7 TAZ (List Int×AA)):Aw7 TAZ (List Int×AA)
 |.c0 c b e=>mk (cond ((TT c)>=64) (cond (JF b) (cond ((Avv DI (64:Int)) && (decide (64<=(TT c)))) ((a b (P5 c (64:Int))).bind fun d=>cond ((Rk d b) && (JF d)) (cond ((Avv DI (64:Int)) && (decide (64<=(TT c)))) (k (.c0 (AwX c (64:Int)) d e)) none) none) none) none) (cond (JF b) (cond ((Rk b e) && (JF b)) (cond ((JF b) && true) (some (b,c)) none) none) none))
def pO:AzH TAZ (List Int×AA)
 |0,_=>none
 |m+1,s=>VAl zQ (pO m) s
def WAl:KAt:=NA1 zQ (pO AY)
def KBZ:Awe:=fy u2 WAl AKl AKl [IBZ] Tryz.func62 JBZ VAl NA1 pO
inductive UAZ where
 |c0 (a:AA) (b:(List Int)) (d:Int)
def LBZ:UAZ->Avy
 |.c0 a b d=>(tdo Tryz.f65 232,[vs 3 a,(6,[.arr 108 b]),vi 7 d],[])
def OA1 (b:Bl) (k:Aw7 UAZ AA):Ic:=fun a=>mk (cond (JF a) (k (.c0 IK a 0)) none)
def PA1 (a:Bl) (k:Aw7 UAZ AA):Aw7 UAZ AA
 |.c0 e c b=>mk (cond (b<8) (cond (JF c) (cond (Dt b c) ((a (GZ c b)).bind fun d=>cond (KZ e d) (k (.c0 (e++d) c (ArO b))) none) none) none) (some e))
def zS:AzH UAZ AA
 |0,_=>none
 |m+1,s=>PA1 WO (zS m) s
def XAl:Ic:=OA1 WO (zS AY)
def MBZ:Awe:=fy u1 XAl AEe Cc [RAl] Tryz.func65 LBZ PA1 OA1 zS
def QA1 (e:Aqy) (f:Bl) (g:KAt) (h:Ic):CG:=fun c=>mk (e.bind fun d=>(f (TT c)).bind fun b=>Arm (KZ c b) ((g d (c++b)).bind fun a=>Arm ((Nat.beq a.1.length 8) && (JF a.1)) (Arm (JF a.1) (Ap2 (h a.1)))))
def Ap8:CG:=QA1 DA1 TAl WAl XAl
def RJ:Awe:=BI u1 Ap8 Cc Cc [BBZ,DBZ,KBZ,MBZ] Tryz.func30 QA1
def RA1 (c:CG) (d:Bl):Om:=mk ((c IK).bind fun a=>(d 32).bind fun b=>some ⟨a,0,[],0,b,0⟩)
def X4:Om:=RA1 Ap8 X7
def YAl:Awe:=BI u0 X4 Yc AEk [RJ,QAl] Tryz.func46 RA1
inductive WAZ where
 |c0 (a:Int) (b:(List Int))
def NBZ:WAZ->Avy
 |.c0 a b=>(tdo Tryz.f144 224,[vi 0 a,vo 3 240],[(240,.sl 5 b)])
def NBF (k:Aw7 WAZ AA):Bl:=fun a=>k (.c0 a [])
def ZAl (k:Aw7 WAZ AA):Aw7 WAZ AA
 |.c0 a b=>mk (cond (a > 127) (cond (Na b) (k (.c0 (Ad (a.tdiv 128)) (b++[w8 (Ad (128+(a.tmod 128)))]))) none) (Arm (Na b) (AsF (b++[w8 a]))))
def pz:AzH WAZ AA
 |0,_=>none
 |m+1,s=>ZAl (pz m) s
def WS:Bl:=NBF (pz AY)
def fO:Awe:=fy u1 WS FN Cc [] Tryz.func144 NBZ ZAl NBF pz
def OBF:AqW:=fun a b c=>mk (C9 (VN a b) (some (Avv a c)) (some false))
def Fv:AqW:=OBF
def Aqs:Awe:=BI u3 Fv AVC E8 [] Tryz.func82 OBF
def SA1 (c:AqW):Arl:=fun a=>mk ((c a.fId 1 1000).bind fun b=>C9 (!b) (some false) ((c a.fNext 0 16).bind fun d=>C9 (!d) (some false) (C9 (a.Aj != 2) (C9 (a.fNext != 0) (some false) (C9 (Me a) (some false) (C9 (a.Aj != 1) (C9 (ArU a) (some false) (CAU a a.Aj (AwY (Td a)) (a.Aj == 3) (rC a) (some false))) (CAU a a.Aj (AwY (Td a)) (a.Aj == 3) (rC a) (some false))))) (C9 (a.Aj != 1) (C9 (ArU a) (some false) (CAU a a.Aj (AwY (Td a)) (a.Aj == 3) (rC a) (some false))) (CAU a a.Aj (AwY (Td a)) (a.Aj == 3) (rC a) (some false))))))
def WR:Arl:=SA1 Fv
def XAZ:Awe:=BI u1 WR S9 E8 [Aqs] Tryz.func133 SA1
def TA1:Bl:=fun a=>mk (AsF [w8 a])
def Ar3:Bl:=TA1
def VT:Awe:=BI u1 Ar3 FN Cc [] Tryz.func146 TA1
inductive YAZ where
 |c0 (a b d:Int) (e:(List Bool))
def OBZ:YAZ->Avy
 |.c0 a b d e=>(tdo Tryz.f212 232,[vi 3 a,vo 14 944,vi 15 b,vi 16 d],[(944,.sl 4 e)])
def UA1 (k:Aw7 YAZ Int):LAt:=fun a=>mk (k (.c0 0 ((4:Nat):Int) 0 [AqD a,FK a,Me a,ArU a]))
def PBF (k:Aw7 YAZ Int):Aw7 YAZ Int
 |.c0 d c a b=>mk (cond (Aqt a c) (cond (AwI a b.length) (cond (b.getD (BN a) false) (cond (KD a) (k (.c0 (Ad (ZG Lh d (Ad (1*(Ar6 a))))) c (ArO a) b)) none) (k (.c0 d c (ArO a) b))) none) (some d))
def AGo:AzH YAZ Int
 |0,_=>none
 |m+1,s=>PBF (AGo m) s
def BAm:LAt:=UA1 (AGo AY)
def PBZ:Awe:=fy u1 BAm S9 FN [] Tryz.func212 OBZ PBF UA1 AGo
def VA1 (c:Bl):CG:=fun b=>mk ((c (TT b)).bind fun a=>Arm (KZ a b) (some (a++b)))
def CAm:CG:=VA1 WS
def QBZ:Awe:=BI u1 CAm Cc Cc [fO] Tryz.func213 VA1
def WA1 (l:Arl) (h i:Bl) (m:LAt) (n:CG):Aqv:=fun a=>mk ((l a).bind fun g=>cond (!g) (Ar2 (IK,false)) ((h a.fId).bind fun b=>(i a.Aj).bind fun c=>AqO (KZ b c) ((m a).bind fun j=>(i j).bind fun d=>AqO (Gx b c d) ((n (Td a)).bind fun e=>AqO (Gx (b++c) d e) ((h a.fNext).bind fun f=>AqO (Gx ((b++c)++d) e f) (Ar2 ((((b++c)++d)++e)++f,true)))))))
def qA:Aqv:=WA1 WR WS Ar3 BAm CAm
def XA1:Awe:=BI u1 qA S9 IQ [XAZ,fO,VT,PBZ,QBZ] Tryz.func145 WA1
def YA1 (j:Bl) (m:AqW) (o:Aqv) (b:Bl):AwL:=fun a=>mk (cond (a.Aj == 1) (cond (!(AwY a.fText)) (Ar2 (IK,false)) (cond (!((VL a.Aj) && (((AwF a.fText) == (AwF a.fText)) && ((Aq6 a.DR) && (((Aq6 (Qa a).fId) && ((Aq6 (Qa a).Aj) && (((AqD (Qa a)) == false) && (((FK (Qa a)) == false) && (((Me (Qa a)) == false) && (((ArU (Qa a)) == false) && ((fH a) && ((Aq6 (Qa a).fNext) && true)))))))) && true))))) (Ar2 (IK,false)) ((b a.Aj).bind fun d=>AqO (KZ d a.fText) (Ar2 (d++a.fText,true))))) (cond (a.Aj == 2) ((j a.DR).bind fun e=>(m a.DR 0 3).bind fun l=>cond (!l) (Ar2 (IK,false)) (cond (!((VL a.Aj) && ((Avd a.fText IK) && ((VL a.DR) && (((Aq6 (Qa a).fId) && ((Aq6 (Qa a).Aj) && (((AqD (Qa a)) == false) && (((FK (Qa a)) == false) && (((Me (Qa a)) == false) && (((ArU (Qa a)) == false) && ((fH a) && ((Aq6 (Qa a).fNext) && true)))))))) && true))))) (Ar2 (IK,false)) ((b a.Aj).bind fun f=>AqO (KZ f e) (Ar2 (f++e,true))))) (cond (a.Aj == 3) ((o (Qa a)).bind fun c=>cond (!c.2) (Ar2 (IK,false)) (cond (!((VL a.Aj) && ((Avd a.fText IK) && ((Aq6 a.DR) && (((VL (Qa a).fId) && ((VL (Qa a).Aj) && (((AqD (Qa a)) == (AqD (Qa a))) && (((FK (Qa a)) == (FK (Qa a))) && (((Me (Qa a)) == (Me (Qa a))) && (((ArU (Qa a)) == (ArU (Qa a))) && (((AwF (Td (Qa a))) == (AwF (Td (Qa a)))) && ((VL (Qa a).fNext) && true)))))))) && true))))) (Ar2 (IK,false)) ((b a.Aj).bind fun g=>AqO (KZ g c.1) (Ar2 (g++c.1,true))))) (cond (a.Aj == 4) ((j a.DR).bind fun h=>(m a.DR 1 1000).bind fun n=>cond (!n) (Ar2 (IK,false)) (cond (!((VL a.Aj) && ((Avd a.fText IK) && ((VL a.DR) && (((Aq6 (Qa a).fId) && ((Aq6 (Qa a).Aj) && (((AqD (Qa a)) == false) && (((FK (Qa a)) == false) && (((Me (Qa a)) == false) && (((ArU (Qa a)) == false) && ((fH a) && ((Aq6 (Qa a).fNext) && true)))))))) && true))))) (Ar2 (IK,false)) ((b a.Aj).bind fun i=>AqO (KZ i h) (Ar2 (i++h,true))))) (Ar2 (IK,false))))))
def qB:AwL:=YA1 WS Fv qA Ar3
def ZA1:Awe:=BI u1 qB AVD IQ [fO,Aqs,XA1,VT] Tryz.func97 YA1
def AM1 (d:AqW) (e:Bl):HAh:=fun b=>mk ((d b 0 1000000000).bind fun a=>cond (!a) (Ar2 (IK,false)) ((e b).bind fun c=>Ar2 (c,true)))
def xg:HAh:=AM1 Fv WS
def RBZ:Awe:=BI u1 xg FN IQ [Aqs,fO] Tryz.func254 AM1
inductive ABv where
 |c0 (a b d:Int) (e:(List Int))
def SBZ:ABv->Avy
 |.c0 a b d e=>(tdo Tryz.f286 232,[(1,[.one (.int .u8 a)]),vo 5 368,vi 10 b,vi 11 d],[(368,.sl 5 e)])
def BA2 (k:Aw7 ABv AA):U6:=fun a b=>mk (cond (ArS a) (k (.c0 b (AsC (Pm a)) 0 (Pm a))) none)
def DAm (k:Aw7 ABv AA):Aw7 ABv AA
 |.c0 d c a b=>mk (cond (Aqt a c) (cond (Dt a b) (cond (Dt a b) (k (.c0 d c (ArO a) (b.set (BN a) (w8 (Ie AqS (GZ b a) d))))) none) none) (AsF b))
def lZ:AzH ABv AA
 |0,_=>none
 |m+1,s=>DAm (lZ m) s
def lY:U6:=BA2 (lZ AY)
def TBZ:Awe:=fy u2 lY AVG Cc [] Tryz.func286 SBZ DAm BA2 lZ
def CA2 (b:CG) (d:Bl) (e:U6):MQ:=fun a f=>mk (cond ((TT a) > 64) ((b a).bind fun c=>EAu d c e f b) (EAu d a e f b))
def lq:MQ:=CA2 Ap8 X7 lY
def QBF:Awe:=BI u2 lq KJ Cc [RJ,QAl,TBZ] Tryz.func255 CA2
inductive BAa where
 |c0 (a:AA) (b:Int) (d e:AA) (f:Int)
def UBZ:BAa->Avy
 |.c0 a b d e f=>(tdo Tryz.f198 2000,[vs 0 a,vi 2 b,vs 8 d,vs 10 e,vi 11 f],[])
def DA2 (d:HAh) (f:AqW) (h:Bl) (i:MQ) (k:Aw7 BAa (AA×Bool)):Yu:=fun g e c=>mk ((d e).bind fun a=>cond (!a.2) (Ar2 (IK,false)) ((f c 0 8000).bind fun b=>cond (!b) (Ar2 (IK,false)) (k (.c0 g c a.1 IK 0))))
def EAm (a:HAh) (b:AqW) (c:Bl) (d:MQ) (k:Aw7 BAa (AA×Bool)):Aw7 BAa (AA×Bool)
 |.c0 l f g e j=>mk (cond (Aqt (TT e) f) (cond (KZ fF g) ((c j).bind fun h=>cond (Gx fF g h) ((d l ((fF++g)++h)).bind fun i=>cond (KZ e i) (k (.c0 l f g (e++i) (ArO j))) none) none) none) (AqO (GK f (TT e)) (Ar2 (P5 e f,true))))
def lu:AzH BAa (AA×Bool)
 |0,_=>none
 |m+1,s=>EAm xg Fv Ar3 lq (lu m) s
def xk:Yu:=DA2 xg Fv Ar3 lq (lu AY)
def RBF:Awe:=fy u3 xk wR IQ [RBZ,Aqs,VT,QBF] Tryz.func198 UBZ EAm DA2 lu
inductive DAa where
 |c0 (a:AA) (b d:Int) (e:(List Int))
def VBZ:DAa->Avy
 |.c0 a b d e=>(tdo Tryz.f200 232,[vs 1 a,vo 5 368,vi 10 b,vi 11 d],[(368,.sl 5 e)])
def EA2 (k:Aw7 DAa AA):MQ:=fun a b=>mk (cond (ArS a) (k (.c0 b (AsC (Pm a)) 0 (Pm a))) none)
def FAm (k:Aw7 DAa AA):Aw7 DAa AA
 |.c0 c d a b=>mk (cond (Aqt a d) (cond (Dt a b) (cond (AwE a (TT c)) (cond (Dt a b) (k (.c0 c d (ArO a) (b.set (BN a) (w8 (Ie AqS (GZ b a) (bt c a)))))) none) none) none) (AsF b))
def l7:AzH DAa AA
 |0,_=>none
 |m+1,s=>FAm (l7 m) s
def xu:MQ:=EA2 (l7 AY)
def SBF:Awe:=fy u2 xu KJ Cc [] Tryz.func200 VBZ FAm EA2 l7
def FA2 (d:Bl) (f:MQ):Yv:=fun g e c=>mk ((d e).bind fun a=>Arm (KZ AsI a) (Arm (Gx AsI a c) ((f g ((AsI++a)++c)).bind fun b=>Arm ((Avv DI (16:Int)) && (decide (16<=(TT b)))) (some (P5 b (16:Int))))))
def xq:Yv:=FA2 WS lq
def TBF:Awe:=BI u3 xq VA Cc [fO,QBF] Tryz.func199 FA2
def GA2 (g:Yu) (h:MQ) (i:Yv):Tn:=fun d e f=>mk ((g d e (TT f)).bind fun b=>cond (!b.2) (Ar2 (IK,false)) ((h f b.1).bind fun a=>(i d e a).bind fun c=>AqO (KZ a c) (Ar2 (a++c,true))))
def yN:Tn:=GA2 xk xu xq
def UBF:Awe:=BI u3 yN VA IQ [RBF,SBF,TBF] Tryz.func155 GA2
inductive HAa where
 |c0 (a:Int) (b:AA) (d:Int)
 |c1 (a:Int) (b:AA) (d e:Int)
def WBZ:HAa->Avy
 |.c0 a b d=>(tdo Tryz.f253 208,[(0,[.one (.int .u32 a)]),vs 1 b,vi 5 d],[])
 |.c1 a b d e=>(tdo Tryz.f253 13464,[(0,[.one (.int .u32 a)]),vs 1 b,vi 5 d,vi 19 e],[])
def IA2 (k:Aw7 HAa Int):qO:=fun a b=>k (.c0 a b 0)
def lU (k:Aw7 HAa Int):Aw7 HAa Int
 |.c0 c b a=>mk (cond (Aqt a (TT b)) (cond (AwE a (TT b)) (k (.c1 (OJ Em c (w32 (bt b a))) b a 0)) none) (some c))
 |.c1 a c d b=>mk (cond (b<8) (cond ((w32 (VJ Em a)) == 1) (k (.c1 (w32 ((BitVec.toNat ((BitVec.ofInt Em (VK a Aq4)) ^^^ (BitVec.ofInt Em 3558460437)):Nat):Int)) c d (ArO b))) (k (.c1 (VK a Aq4) c d (ArO b)))) (k (.c0 a c (ArO d))))
def Uh:AzH HAa Int
 |0,_=>none
 |m+1,s=>lU (Uh m) s
def GAm:qO:=IA2 (Uh AY)
def XBZ:Awe:=fy u2 GAm AVH UG [] Tryz.func253 WBZ lU IA2 Uh
def JA2 (b:qO):Yw:=fun c=>(b 4294967295 c).bind fun a=>some a
def lX:Yw:=JA2 GAm
def VBF:Awe:=BI u1 lX Cc UG [XBZ] Tryz.func197 JA2
def KA2 (f:AqW) (g:Bl) (h:Yw) (i:Bl):Ap5:=fun a=>mk ((f (TT a) 1 9000).bind fun d=>cond (!d) (Ar2 (IK,false)) ((g (TT a)).bind fun b=>(h a).bind fun e=>(i e).bind fun c=>AqO (KZ b c) (AqO (Gx b c a) (Ar2 ((b++c)++a,true)))))
def mD:Ap5:=KA2 Fv WS lX WO
def WBF:Awe:=BI u1 mD Cc IQ [Aqs,fO,VBF,RAl] Tryz.func139 KA2
def LA2 (f:AwL) (h:AqW) (i:Tn) (l:Ap5):XD:=fun j e g=>mk ((f g).bind fun a=>cond (!a.2) (some ([],false)) ((h e 0 10000).bind fun d=>cond (!d) (some ([],false)) ((i j (ArO e) a.1).bind fun b=>(l b.1).bind fun c=>cond (!b.2) (some ([],false)) (cond (!c.2) (some ([],false)) (some ([⟨1,ArB,c.1,IK⟩,⟨2,ArB,IK,IK⟩],true))))))
def yO:XD:=LA2 qB Fv yN mD
def XBF:Awe:=BI u3 yO AVI AVJ [ZA1,Aqs,UBF,WBF] Tryz.func106 LA2
def MA2:XC:=fun a=>mk (cond (Av2 ((Sj a)*40)) (some a) none)
def Uo:XC:=MA2
def zk:Awe:=BI u1 Uo AKp jo [] Tryz.func156 MA2
inductive KAa where
 |c0 (a:AA) (b:(List BQ)) (d e:Int)
def YBZ:KAa->Avy
 |.c0 a b d e=>(tdo Tryz.f93 104,[vs 1 a,vr 8 90 b,vi 9 d,vi 10 e],[])
def NA2 (k:Aw7 KAa Int):Aqr:=fun a b=>mk (k (.c0 b a.Ak (Sj a:Int) 0))
def HAm (k:Aw7 KAa Int):Aw7 KAa Int
 |.c0 d b c a=>mk (cond (Aqt a c) (cond (AwI a b.length) (cond (Avd (Aqc b a).fName d) (some a) (k (.c0 d b c (ArO a)))) none) AwO)
def lS:AzH KAa Int
 |0,_=>none
 |m+1,s=>HAm (lS m) s
def aW:Aqr:=NA2 (lS AY)
def IAm:Awe:=fy u2 aW wS FN [] Tryz.func93 YBZ HAm NA2 lS
inductive LAa where
 |c0 (a:(List BQ)) (b d:Int) (e:BU)
def ZBZ:LAa->Avy
 |.c0 a b d e=>(tdo Tryz.f81 104,[vp 1 64,vr 6 90 a,vi 7 b,vi 8 d],[(64,.var [.BG 90 e.Ak])])
def OA2 (b:AqW) (k:Aw7 LAa Bool):MH:=fun a=>mk (k (.c0 a.Ak (Sj a:Int) 0 a))
def JAm (a:AqW) (k:Aw7 LAa Bool):Aw7 LAa Bool
 |.c0 c e b d=>mk (cond (Aqt b e) (cond (AwI b c.length) ((a (TT (Aqc c b).fName) 1 8).bind fun f=>cond (!f) (some false) (cond ((EP c b) > 20000) (some false) ((a (Arr c b) 0 (EP c b)).bind fun g=>cond (!g) (some false) (cond (Avi b) (cond (AwE (Lr b) (Sj d:Int)) (cond (!(rD (Aqc d.Ak (Lr b)) (Aqc c b))) (some false) (k (.c0 c e (ArO b) d))) none) (k (.c0 c e (ArO b) d)))))) none) (some (decide ((Sj d:Int)<=30))))
def lN:AzH LAa Bool
 |0,_=>none
 |m+1,s=>JAm Fv (lN m) s
def Vu:MH:=OA2 Fv (lN AY)
def KAm:Awe:=fy u1 Vu AKp E8 [Aqs] Tryz.func81 ZBZ JAm OA2 lN
def PA2 (c:Aqr):Yx:=fun b d=>mk ((c b d).bind fun a=>cond (JD a) (cond (GK a (Sj b:Int)) (cond (Av2 ((ZC b.Ak a).length*40)) (cond (GK (ArO a) (Sj b:Int)) (cond (Av2 (((ZC b.Ak a).length+((b.Ak.drop (Oo a)).take ((Sj b) - (Oo a))).length)*40)) (some ⟨(ZC b.Ak a)++((b.Ak.drop (Oo a)).take ((Sj b) - (Oo a)))⟩) none) none) none) none) (some b))
def nT:Yx:=PA2 aW
def YBF:Awe:=BI u2 nT Aes jo [IAm] Tryz.func220 PA2 [0]
inductive MAa where
 |c0 (a:Int) (b:BQ) (d:(List BQ))
def Ank:MAa->Avy
 |.c0 b a d=>(tdo Tryz.f219 480,[vp 0 0,vp 3 192,vi 4 b],[(0,.var [.own 1000000]),(192,.var [.str a.fName,.str a.fText,li a.J3]),(1000000,.sl 90 d)])
def QA2 (c:Yx) (k:Aw7 MAa BU):qP:=fun d b=>(c d b.fName).bind fun a=>k (.c0 0 b a.Ak)
def LAm (a:Yx) (k:Aw7 MAa BU):Aw7 MAa BU
 |.c0 b d c=>mk (cond (Gm b c.length) (cond (AwI b c.length) (cond (rD (Aqc c b) d) (k (.c0 (ArO b) d c)) (XAt b c d)) none) (XAt b c d))
def nU:AzH MAa BU
 |0,_=>none
 |m+1,s=>LAm nT (nU m) s
def MAm:qP:=QA2 nT (nU AY)
def BBa:Awe:=fy u2 MAm Aet jo [YBF] Tryz.func219 Ank LAm QA2 nU [0]
def RA2 (a1:Aqr) (d:MH) (l:XC) (e:qP) (f:Yx):Yy:=fun c a=>mk ((a1 c a.fName).bind fun b=>Ap4 (d c) (Jb (IZ,false)) (cond (a.Aj != 1) (cond (Av8 b) (Jb (IZ,false)) (cond (!(Avd a.fText IK)) (Jb (IZ,false)) (cond (a.Aj != 3) (cond (!(Avd a.I8 IK)) (Jb (IZ,false)) ((l c).bind fun g=>cond (JD b) (AqA (Um b c) (cond (Qq a) (AqA (KZ (KF c b) a.fText) ((e g (AwC c b a)).bind fun m=>Avl d m (IZ,false) (m,true))) (cond (ArC a) ((e g (WX c b)).bind fun n=>Avl d n (IZ,false) (n,true)) (NZ a.Aj ((Aqh c b) != (AwJ c b)) (Jb (IZ,false)) (cond (Oq a) (Jb (IZ,false)) ((f g a.fName).bind fun T=>(e T (W9 a c b)).bind fun o=>Avl d o (IZ,false) (o,true))) (Tq a) ((f g a.fName).bind fun p=>Avl d p (IZ,false) (p,true)))))) (cond (Qq a) (AqA (Wx a) ((e g (WZ a)).bind fun q=>Avl d q (IZ,false) (q,true))) (cond (ArC a) ((e g (Wh a)).bind fun r=>Avl d r (IZ,false) (r,true)) (NZ a.Aj (Oq a) (Jb (IZ,false)) ((f g a.fName).bind fun U=>(e U (XA a)).bind fun s=>Avl d s (IZ,false) (s,true)) (Tq a) ((f g a.fName).bind fun t=>Avl d t (IZ,false) (t,true))))))) ((l c).bind fun h=>cond (JD b) (AqA (Um b c) (cond (Qq a) (AqA (KZ (KF c b) a.fText) ((e h (AwC c b a)).bind fun u=>Avl d u (IZ,false) (u,true))) (cond (ArC a) ((e h (WX c b)).bind fun v=>Avl d v (IZ,false) (v,true)) (NZ a.Aj ((Aqh c b) != (AwJ c b)) (Jb (IZ,false)) (cond (Oq a) (Jb (IZ,false)) ((f h a.fName).bind fun V=>(e V (W9 a c b)).bind fun w=>Avl d w (IZ,false) (w,true))) (Tq a) ((f h a.fName).bind fun x=>Avl d x (IZ,false) (x,true)))))) (cond (Qq a) (AqA (Wx a) ((e h (WZ a)).bind fun y=>Avl d y (IZ,false) (y,true))) (cond (ArC a) ((e h (Wh a)).bind fun z=>Avl d z (IZ,false) (z,true)) (NZ a.Aj (Oq a) (Jb (IZ,false)) ((f h a.fName).bind fun W=>(e W (XA a)).bind fun A=>Avl d A (IZ,false) (A,true)) (Tq a) ((f h a.fName).bind fun B=>Avl d B (IZ,false) (B,true))))))))) (cond (a.Aj != 3) (cond (!(Avd a.I8 IK)) (Jb (IZ,false)) ((l c).bind fun i=>cond (JD b) (AqA (Um b c) (cond (Qq a) (AqA (KZ (KF c b) a.fText) ((e i (AwC c b a)).bind fun C=>Avl d C (IZ,false) (C,true))) (cond (ArC a) ((e i (WX c b)).bind fun D=>Avl d D (IZ,false) (D,true)) (NZ a.Aj ((Aqh c b) != (AwJ c b)) (Jb (IZ,false)) (cond (Oq a) (Jb (IZ,false)) ((f i a.fName).bind fun X=>(e X (W9 a c b)).bind fun E=>Avl d E (IZ,false) (E,true))) (Tq a) ((f i a.fName).bind fun F=>Avl d F (IZ,false) (F,true)))))) (cond (Qq a) (AqA (Wx a) ((e i (WZ a)).bind fun G=>Avl d G (IZ,false) (G,true))) (cond (ArC a) ((e i (Wh a)).bind fun H=>Avl d H (IZ,false) (H,true)) (NZ a.Aj (Oq a) (Jb (IZ,false)) ((f i a.fName).bind fun Y=>(e Y (XA a)).bind fun I=>Avl d I (IZ,false) (I,true)) (Tq a) ((f i a.fName).bind fun J=>Avl d J (IZ,false) (J,true))))))) ((l c).bind fun j=>cond (JD b) (AqA (Um b c) (cond (Qq a) (AqA (KZ (KF c b) a.fText) ((e j (AwC c b a)).bind fun L=>Avl d L (IZ,false) (L,true))) (cond (ArC a) ((e j (WX c b)).bind fun M=>Avl d M (IZ,false) (M,true)) (NZ a.Aj ((Aqh c b) != (AwJ c b)) (Jb (IZ,false)) (cond (Oq a) (Jb (IZ,false)) ((f j a.fName).bind fun Z=>(e Z (W9 a c b)).bind fun N=>Avl d N (IZ,false) (N,true))) (Tq a) ((f j a.fName).bind fun O=>Avl d O (IZ,false) (O,true)))))) (cond (Qq a) (AqA (Wx a) ((e j (WZ a)).bind fun P=>Avl d P (IZ,false) (P,true))) (cond (ArC a) ((e j (Wh a)).bind fun Q=>Avl d Q (IZ,false) (Q,true)) (NZ a.Aj (Oq a) (Jb (IZ,false)) ((f j a.fName).bind fun a0=>(e a0 (XA a)).bind fun R=>Avl d R (IZ,false) (R,true)) (Tq a) ((f j a.fName).bind fun S=>Avl d S (IZ,false) (S,true)))))))))
def yQ:Yy:=RA2 aW Vu Uo MAm nT
def CBa:Awe:=BI u2 yQ AVK jq [IAm,KAm,zk,BBa,YBF] Tryz.func157 RA2
inductive OAa where
 |c0 (a b:(List Ef)) (d e:Int) (f g:(List BQ))
def DBa:OAa->Avy
 |.c0 a b d e f g=>(tdo Tryz.f107 232,[vr 1 136 a,vp 4 256,vp 6 384,vr 13 136 b,vi 14 d,vi 15 e],[(256,.var [.own 1016384]),(384,.var [.own 1024576]),(1016384,.sl 90 f),(1024576,.sl 90 g)])
def SA2 (c:XC) (e:Yy) (k:Aw7 OAa (BU×Int)):U5:=fun d a=>mk ((c d).bind fun b=>k (.c0 a a (Qi a) 0 [] b.Ak))
def NAm (a:XC) (b:Yy) (k:Aw7 OAa (BU×Int)):Aw7 OAa (BU×Int)
 |.c0 h d g c i f=>mk (cond (Aqt c g) (cond (AwI c d.length) ((b ⟨f⟩ (d.getD (BN c) (⟨0,IK,IK,IK⟩:Ef))).bind fun e=>cond (!e.2) (some (⟨f⟩,c)) (k (.c0 h d g (ArO c) i e.1.Ak))) none) (some (⟨f⟩,Qi h)))
def nZ:AzH OAa (BU×Int)
 |0,_=>none
 |m+1,s=>NAm Uo yQ (nZ m) s
def nY:U5:=SA2 Uo yQ (nZ AY)
def TA2:Awe:=fy u2 nY AVL AVM [zk,CBa] Tryz.func107 DBa NAm SA2 nZ
inductive PAa where
 |c0 (a:(List Af)) (b d:Int) (e:Bo)
def EBa:PAa->Avy
 |.c0 b d e a=>(tdo Tryz.f83 104,[vp 1 64,vr 6 76 b,vi 7 d,vi 8 e],[(64,.var [.str a.Bv,li a.DU,.BG 76 a.AZ,li a.BM,.str a.Dh,li a.fCount])])
def UA2 (b:Arl) (c:AqW) (k:Aw7 PAa Bool):AqC:=fun a=>mk (k (.c0 (DC a) (Lu a) 0 a))
def OAm (a:Arl) (b:AqW) (k:Aw7 PAa Bool):Aw7 PAa Bool
 |.c0 e f d c=>mk (cond (Aqt d f) (cond (AwI d e.length) ((a (AwS e d ⟨0,0,false,false,false,false,IK,0⟩)).bind fun g=>cond (!g) (some false) (cond (Qs (AwS e d ⟨0,0,false,false,false,false,IK,0⟩).fId c.BM) (some false) (cond (Avi d) (cond (AwE (Lr d) (Lu c)) (cond (VN (AwS (DC c) (Lr d) ⟨0,0,false,false,false,false,IK,0⟩).fId (AwS e d ⟨0,0,false,false,false,false,IK,0⟩).fId) (some false) (k (.c0 e f (ArO d) c))) none) (k (.c0 e f (ArO d) c))))) none) (C9 (AwY c.Bv) (C9 (AwY (Aql c)) (Sl (b c.DU 0 3) (C9 ((Lu c)<=8) (Sl (b c.BM 0 1000) (WU (b c.fCount 0 10000)) (some false)) (some false)) (some false)) (some false)) (some false)))
def dX:AzH PAa Bool
 |0,_=>none
 |m+1,s=>OAm WR Fv (dX m) s
def qF:AqC:=UA2 WR Fv (dX AY)
def ZBF:Awe:=fy u1 qF AEl E8 [XAZ,Aqs] Tryz.func83 EBa OAm UA2 dX
def VA2:Ql:=fun a=>mk (cond (Av2 ((Ig a)*48)) (some a) none)
def dY:Ql:=VA2
def WA2:Awe:=BI u1 dY AEl AEk [] Tryz.func88 VA2
inductive QAa where
 |c0 (a:Int) (b:(List Af)) (d e:Int)
def FBa:QAa->Avy
 |.c0 a b d e=>(tdo Tryz.f99 104,[vi 1 a,vr 8 76 b,vi 9 d,vi 10 e],[])
def AZj (k:Aw7 QAa Int):AAU:=fun a b=>mk (k (.c0 b (DC a) (Lu a) 0))
def PAm (k:Aw7 QAa Int):Aw7 QAa Int
 |.c0 d b c a=>mk (cond (Aqt a c) (cond (AwI a b.length) (cond ((AwS b a ⟨0,0,false,false,false,false,IK,0⟩).fId == d) (some a) (k (.c0 d b c (ArO a)))) none) AwO)
def dZ:AzH QAa Int
 |0,_=>none
 |m+1,s=>PAm (dZ m) s
def zh:AAU:=AZj (dZ AY)
def XA2:Awe:=fy u2 zh AKo FN [] Tryz.func99 FBa PAm AZj dZ
def YA2:eG:=fun b a=>mk (C9 (a.Aj == b.Aj) (C9 (Avd (Td a) (Td b)) (C9 ((Me a) == (Me b)) (C9 ((ArU a) == (ArU b)) (C9 (VN a.fNext b.fNext) (C9 (AqD a) (C9 (FK a) (some true) (some (!(FK b)))) (C9 (!(AqD b)) (C9 (FK a) (some true) (some (!(FK b)))) (some false))) (some false)) (some false)) (some false)) (some false)) (some false))
def QAm:eG:=YA2
def GBa:Awe:=BI u2 QAm AVE E8 [] Tryz.func147 YA2
def ZA2 (e:AAU) (f:eG):MAt:=fun a c=>mk ((e a c.fId).bind fun b=>cond (JD b) (cond (AwI b (Ig a)) ((f (AwS (DC a) b ⟨0,0,false,false,false,false,IK,0⟩) c).bind fun d=>cond (!d) (some (false,a)) (cond (AwI b (Ig a)) (some (true,⟨a.Bv,a.DU,(DC a).set (BN b) c,a.BM,Aql a,a.fCount⟩)) none)) none) (cond (c.fId != (ArO a.BM)) (some (false,a)) (cond ((Lu a)>=8) (some (false,a)) (cond (Av2 (((Ig a)+1)*48)) (some (true,⟨a.Bv,a.DU,(DC a)++[c],c.fId,Aql a,a.fCount⟩)) none))))
def RAm:MAt:=ZA2 zh QAm
def HBa:Awe:=BI u2 RAm Aeu Aev [XA2,GBa] Tryz.func98 ZA2 [0]
def AQU (o:AwL) (p:AqC) (q:Ql) (r:MAt) (s:AAU) (g:CG):AwA:=fun a d=>mk ((o d).bind fun c=>(p a).bind fun h=>cond (!h) (some (AwT,false)) (cond (!c.2) (some (AwT,false)) (cond (a.fCount>=10000) (some (AwT,false)) ((q a).bind fun b=>cond (d.Aj == 1) (cond (Nk a c) ((g ((Aql a)++c.1)).bind fun i=>some (⟨d.fText,0,DC b,b.BM,i,OH b⟩,true)) none) (cond (d.Aj == 2) (cond (Nk a c) ((g ((Aql a)++c.1)).bind fun j=>some (⟨b.Bv,d.DR,DC b,b.BM,j,OH b⟩,true)) none) (cond (d.Aj == 3) ((r b (Qa d)).bind fun f=>cond (!f.1) (some (AwT,false)) (cond (Nk a c) ((g ((Aql a)++c.1)).bind fun l=>some (⟨f.2.Bv,f.2.DU,DC f.2,f.2.BM,l,OH f.2⟩,true)) none)) (cond (d.Aj == 4) ((s a d.DR).bind fun e=>cond (Av8 e) (some (AwT,false)) (cond (GK e (Lu a)) (cond (Av2 ((((DC a).take (BN e)).drop 0).length*48)) (cond (GK (ArO e) (Lu a)) (cond (Av2 (((((DC a).take (BN e)).drop 0).length+(((DC a).take (Ig a)).drop (Oo e)).length)*48)) (cond (Nk a c) ((g ((Aql a)++c.1)).bind fun m=>some (⟨b.Bv,b.DU,(((DC a).take (BN e)).drop 0)++(((DC a).take (Ig a)).drop (Oo e)),b.BM,m,OH b⟩,true)) none) none) none) none) none)) (cond (Nk a c) ((g ((Aql a)++c.1)).bind fun n=>some (⟨b.Bv,b.DU,DC b,b.BM,n,OH b⟩,true)) none))))))))
def qG:AwA:=AQU qB qF dY RAm zh Ap8
def BBG:Awe:=BI u2 qG AVF AEm [ZA1,ZBF,WA2,HBa,XA2,RJ] Tryz.func53 AQU
def BA3 (f:XD) (g:U5) (h:AwA):zq:=fun a e=>mk ((f a.BO (Qm a) e).bind fun b=>(g a.Bc b.1).bind fun c=>(h (DX a) e).bind fun d=>cond (!b.2) (some (false,a)) (cond (!d.2) (some (false,a)) (cond (Aqt c.2 (Qi b.1)) (some (false,a)) (some (true,⟨a.BO,a.CZ,c.1,d.1,Es a,He a,Ar7 a⟩)))))
def Vr:zq:=BA3 yO nY qG
def CBG:Awe:=BI u2 Vr Aew Aex [XBF,TA2,BBG] Tryz.func60 BA3 [0]
def CA3 (f:Om) (g:CG) (h:zq):eF:=fun a b=>mk (cond ((TT a) != 32) (some (⟨IK,false,IZ,AwT,[],[],0⟩,false)) (cond ((TT b) > 20) (some (⟨IK,false,IZ,AwT,[],[],0⟩,false)) (f.bind fun c=>(g b).bind fun d=>(h ⟨a,true,IZ,c,[],[],0⟩ ⟨1,d,0,⟨0,0,false,false,false,false,IK,0⟩⟩).bind fun e=>some (e.2,true))))
def xI:eF:=CA3 X4 Ap8 Vr
def IBa:Awe:=BI u2 xI KJ AEn [YAl,RJ,CBG] Tryz.func28 CA3
def DA3 (b:AqW):XG:=fun a=>mk (Sl (b a.Au 1 13) (Sl (b (ArX a) 0 1000) (Sl (b a.Ag 0 1000) (Sl (b a.Aj 0 3) (some (decide ((TT a.fText)<=1000))) (some false)) (some false)) (some false)) (some false))
def yB:XG:=DA3 Fv
def DBG:Awe:=BI u1 yB AKm E8 [Aqs] Tryz.func61 DA3
def EA3 (b:XG):Yq:=fun a=>mk (Sl (b a.BA) (some (decide ((AsC a.Lc)<=30))) (C9 a.JY (C9 ((Aq6 a.BA.Au) && ((Aq6 (ArX a.BA)) && ((Aq6 a.BA.Ag) && ((Aq6 a.BA.Aj) && ((Avd a.BA.fText IK) && ((a.BA.CY == false) && ((a.BA.CX == false) && true))))))) (some (decide ((AsC a.Lc)<=30))) (some false)) (some false)))
def xM:Yq:=EA3 yB
def JBa:Awe:=BI u1 xM AU1 E8 [DBG] Tryz.func29 EA3
inductive VAa where
 |c0 (a b:(List Af)) (d e:Int)
def KBa:VAa->Avy
 |.c0 a b d e=>(tdo Tryz.f90 232,[vr 0 76 a,vr 1 76 b,vi 12 d,vi 13 e],[])
def FA3 (k:Aw7 VAa Bool):NAt:=fun a b=>cond ((a.length:Int) != (b.length:Int)) (some false) (k (.c0 a b (a.length:Int) 0))
def SAm (k:Aw7 VAa Bool):Aw7 VAa Bool
 |.c0 b c d a=>mk (cond (Aqt a d) (cond (AwI a b.length) (cond (AwI a c.length) (cond (!(((AwS b a ⟨0,0,false,false,false,false,IK,0⟩).fId == (AwS c a ⟨0,0,false,false,false,false,IK,0⟩).fId) && (((AwS b a ⟨0,0,false,false,false,false,IK,0⟩).Aj == (AwS c a ⟨0,0,false,false,false,false,IK,0⟩).Aj) && (((AqD (AwS b a ⟨0,0,false,false,false,false,IK,0⟩)) == (AqD (AwS c a ⟨0,0,false,false,false,false,IK,0⟩))) && (((FK (AwS b a ⟨0,0,false,false,false,false,IK,0⟩)) == (FK (AwS c a ⟨0,0,false,false,false,false,IK,0⟩))) && (((Me (AwS b a ⟨0,0,false,false,false,false,IK,0⟩)) == (Me (AwS c a ⟨0,0,false,false,false,false,IK,0⟩))) && (((ArU (AwS b a ⟨0,0,false,false,false,false,IK,0⟩)) == (ArU (AwS c a ⟨0,0,false,false,false,false,IK,0⟩))) && ((Avd (Td (AwS b a ⟨0,0,false,false,false,false,IK,0⟩)) (Td (AwS c a ⟨0,0,false,false,false,false,IK,0⟩))) && (((AwS b a ⟨0,0,false,false,false,false,IK,0⟩).fNext == (AwS c a ⟨0,0,false,false,false,false,IK,0⟩).fNext) && true))))))))) (some false) (k (.c0 b c d (ArO a)))) none) none) (some true))
def lQ:AzH VAa Bool
 |0,_=>none
 |m+1,s=>SAm (lQ m) s
def TAm:NAt:=FA3 (lQ AY)
def LBa:Awe:=fy u2 TAm Aey E8 [] Tryz.func90 KBa SAm FA3 lQ
def GA3 (c:NAt):ZA:=fun a b=>mk (C9 (Avd a.Bv b.Bv) (C9 (a.DU == b.DU) (Sl (c (DC a) (DC b)) (C9 (a.BM == b.BM) (C9 (Avd (Aql a) (Aql b)) (some (a.fCount == b.fCount)) (some false)) (some false)) (some false)) (some false)) (some false))
def xW:ZA:=GA3 TAm
def MBa:Awe:=BI u2 xW AUw E8 [LBa] Tryz.func47 GA3
def HA3 (c:Aqr):XE:=fun b d=>mk ((c b d).bind fun a=>cond (Av8 a) (Ar2 (IK,false)) (AqO (Um a b) (Ar2 (KF b a,true))))
def xX:XE:=HA3 aW
def EBG:Awe:=BI u2 xX wS IQ [IAm] Tryz.func91 HA3
inductive YAa where
 |c0 (a:AA) (b d e:Int)
def NBa:YAa->Avy
 |.c0 a b d e=>(tdo Tryz.f196 976,[vs 0 a,vi 1 b,vi 7 d,vi 8 e],[])
def zW (d:AqW) (k:Aw7 YAa (Int×Int×Bool)):Qo:=fun c b=>mk ((d b 0 (TT c)).bind fun a=>cond (!a) (some (0,0,false)) (k (.c0 c b 0 0)))
def UAm (a:AqW) (k:Aw7 YAa (Int×Int×Bool)):Aw7 YAa (Int×Int×Bool)
 |.c0 d c e b=>mk (cond (b<5) (cond (Aqt (Fb c b) (TT d)) (cond (AwE (Fb c b) (TT d)) (cond (KD (Ad (7*b))) (cond ((Qk d (Fb c b))<128) (cond (Aq6 (Qk d (Fb c b))) (cond (Avi b) (some (0,0,false)) (cond ((rE e d c b) > 1000000000) (some (0,0,false)) (some (rE e d c b,ArO (Fb c b),true)))) (cond ((rE e d c b) > 1000000000) (some (0,0,false)) (some (rE e d c b,ArO (Fb c b),true)))) (k (.c0 d c (rE e d c b) (ArO b)))) none) none) (some (0,0,false))) (some (0,0,false)))
def AqQ:AzH YAa (Int×Int×Bool)
 |0,_=>none
 |m+1,s=>UAm Fv (AqQ m) s
def Us:Qo:=zW Fv (AqQ AY)
def VAm:Awe:=fy u2 Us Q9 AVQ [Aqs] Tryz.func196 NBa UAm zW AqQ
inductive AB7 where
 |c0 (a:AA) (b:Int) (d:(List AA))
def OBa:AB7->Avy
 |.c0 a b d=>(tdo Tryz.f136 496,[vs 0 a,vo 4 304,vi 5 b],[(304,.sl 9 d)])
def IA3 (b:Qo) (c:AqW) (d:Yw) (e:Bl) (k:Aw7 AB7 (List AA×Int)):Y8:=fun a=>mk (cond ((TT a) > 20000) (some ([],0)) (k (.c0 a 0 [])))
def JA3 (a:Qo) (b:AqW) (c:Yw) (d:Bl) (k:Aw7 AB7 (List AA×Int)):Aw7 AB7 (List AA×Int)
 |.c0 f h g=>mk ((a f h).bind fun e=>cond (!e.2.2) (some (g,h)) ((b e.1 1 9000).bind fun i=>cond (!i) (some (g,h)) (cond (Qs e.1 (Ad ((AwZ (TT f) e.2.1) - 4))) (some (g,h)) (cond (Ll (Ad (e.2.1+4)) (Ad (TR e)) (TT f)) (cond (Ll e.2.1 (Ad (e.2.1+4)) (TT f)) ((c (U0 f (e.2.1+4) (TR e))).bind fun j=>(d j).bind fun l=>cond (!(Avd (JE f e.2.1 (e.2.1+4)) l)) (some (g,h)) (cond (AqV g) (k (.c0 f (Ad (TR e)) (g++[U0 f (e.2.1+4) (TR e)]))) none)) none) none))))
def xZ:AzH AB7 (List AA×Int)
 |0,_=>none
 |m+1,s=>JA3 Us Fv lX WO (xZ m) s
def xY:Y8:=IA3 Us Fv lX WO (xZ AY)
def PBa:Awe:=fy u1 xY Cc AUq [VAm,Aqs,VBF,RAl] Tryz.func136 OBa JA3 IA3 xZ
def KA3 (g:Yu) (h:Yv) (i:MQ):Tn:=fun c d a=>mk (cond (Av8 (Ad ((TT a) - 16))) (Ar2 (IK,false)) ((g c d (Ad ((TT a) - 16))).bind fun b=>cond (!b.2) (Ar2 (IK,false)) (AqO (RAU a) ((h c d (ZH a)).bind fun e=>AqO (RAU a) (cond (!(Avd e (a.extract (Aqq ((TT a) - 16)) a.size))) (Ar2 (IK,false)) (AqO (RAU a) ((i (ZH a) b.1).bind fun f=>Ar2 (f,true))))))))
def l9:Tn:=KA3 xk xq xu
def FBG:Awe:=BI u3 l9 VA IQ [RBF,TBF,SBF] Tryz.func137 KA3
def WAm (c:Qo):OAt:=fun a=>(c a.fText a.ER).bind fun b=>cond (!b.2.2) (some (0,⟨a.fText,a.ER,true⟩)) (some (b.1,⟨a.fText,b.2.1,a.I7⟩))
def pY:OAt:=WAm Us
def QBa:Awe:=BI u1 pY AU2 Aez [VAm] Tryz.func225 WAm [0]
def yg (c:Qo):IAh:=fun b d=>mk ((c b d).bind fun a=>cond (!a.2.2) (some (IK,0,false)) (cond (a.1 > 20000) (some (IK,0,false)) (cond (Qs a.1 (AwZ (TT b) a.2.1)) (some (IK,0,false)) (cond (Ll a.2.1 (Fb a.2.1 a.1) (TT b)) (some (JE b a.2.1 (a.2.1+a.1),Fb a.2.1 a.1,true)) none))))
def WC:IAh:=yg Us
def GBG:Awe:=BI u2 WC Q9 AU3 [VAm] Tryz.func223 yg
def XAm (c:IAh):PAt:=fun a=>mk ((c a.fText a.ER).bind fun b=>cond (!b.2.2) (some (IK,⟨a.fText,a.ER,true⟩)) (some (b.1,⟨a.fText,b.2.1,a.I7⟩)))
def pq:PAt:=XAm WC
def RBa:Awe:=BI u1 pq AU2 Ae0 [GBG] Tryz.func226 XAm [0]
def YAm (b:OAt) (i:PAt) (j:Aqv):Y1:=fun h=>mk ((b ⟨h,0,false⟩).bind fun a=>(b a.2).bind fun c=>(b c.2).bind fun d=>(i d.2).bind fun e=>(b e.2).bind fun f=>(j (ZAt a c d e f)).bind fun g=>cond f.2.I7 (some (⟨0,0,false,false,false,false,IK,0⟩,false)) (cond (!g.2) (some (⟨0,0,false,false,false,false,IK,0⟩,false)) (cond (!(Avd g.1 h)) (some (⟨0,0,false,false,false,false,IK,0⟩,false)) (some (ZAt a c d e f,true)))))
def AqX:Y1:=YAm pY pq qA
def HBG:Awe:=BI u1 AqX Cc Yb [QBa,RBa,XA1] Tryz.func165 YAm
def dW (h:Y1) (i:Qo) (c:AwL):Y9:=fun a=>mk (cond (Avd a IK) (some (⟨0,IK,0,⟨0,0,false,false,false,false,IK,0⟩⟩,false)) (cond (RI DI (TT a)) (cond ((RS a) == 1) (cond (MAU a) ((c ⟨RS a,AwX a Aq4,0,⟨0,0,false,false,false,false,IK,0⟩⟩).bind fun b=>cond (!b.2) (some (⟨0,IK,0,⟨0,0,false,false,false,false,IK,0⟩⟩,false)) (cond (!(Avd b.1 a)) (some (⟨0,IK,0,⟨0,0,false,false,false,false,IK,0⟩⟩,false)) (some (⟨RS a,AwX a Aq4,0,⟨0,0,false,false,false,false,IK,0⟩⟩,true)))) none) (cond ((RS a) == 3) (cond (MAU a) ((h (AwX a Aq4)).bind fun d=>(c ⟨RS a,IK,0,d.1⟩).bind fun e=>cond (!e.2) (some (⟨0,IK,0,⟨0,0,false,false,false,false,IK,0⟩⟩,false)) (cond (!(Avd e.1 a)) (some (⟨0,IK,0,⟨0,0,false,false,false,false,IK,0⟩⟩,false)) (some (⟨RS a,IK,0,d.1⟩,true)))) none) ((i a 1).bind fun f=>(c ⟨RS a,IK,f.1,⟨0,0,false,false,false,false,IK,0⟩⟩).bind fun g=>cond (!g.2) (some (⟨0,IK,0,⟨0,0,false,false,false,false,IK,0⟩⟩,false)) (cond (!(Avd g.1 a)) (some (⟨0,IK,0,⟨0,0,false,false,false,false,IK,0⟩⟩,false)) (some (⟨RS a,IK,f.1,⟨0,0,false,false,false,false,IK,0⟩⟩,true)))))) none))
def AsN:Y9:=dW AqX Us qB
def SBa:Awe:=BI u1 AsN Cc AUr [HBG,VAm,ZA1] Tryz.func138 dW
inductive EAb where
 |c0 (a:AA) (b d e:Int) (f:(List Ah)) (g:(List AA))
def TBa:EAb->Avy
 |.c0 a b d e f g=>(tdo Tryz.f92 1000,[vs 0 a,vo 8 560,vi 9 b,vo 23 1520,vi 24 d,vi 25 e],[(560,.sl 78 f),(1520,.sl 9 g)])
def LA3 (b:Y8) (e:Tn) (f:Y9) (g:Ap5) (k:Aw7 EAb (List Ah×Int)):XF:=fun d c=>mk ((b c).bind fun a=>k (.c0 d 0 (En a.1) 0 [] a.1))
def ZAm (a:Y8) (b:Tn) (c:Y9) (d:Ap5) (k:Aw7 EAb (List Ah×Int)):Aw7 EAb (List Ah×Int)
 |.c0 m h l e f g=>mk (cond (Aqt e l) (cond (OL e g) ((b m (ArO e) (Tf g e IK)).bind fun i=>(c i.1).bind fun j=>cond (!i.2) (some (f,h)) (cond (!j.2) (some (f,h)) (cond (dn f) ((d (Tf g e IK)).bind fun n=>k (.c0 m (Fb h (TT n.1)) l (ArO e) (f++[j.1]) g)) none))) none) (some (f,h)))
def mF:AzH EAb (List Ah×Int)
 |0,_=>none
 |m+1,s=>ZAm xY l9 AsN mD (mF m) s
def xw:XF:=LA3 xY l9 AsN mD (mF AY)
def IBG:Awe:=fy u2 xw KJ AUs [PBa,FBG,SBa,WBF] Tryz.func92 TBa ZAm LA3 mF
inductive GAb where
 |c0 (a:(List Ah)) (b d:Int) (e:AA) (f g:Int) (h:AA) (i:Int) (j:AA) (l n:Int) (o:AA) (p:Int) (q t:(List Af))
def UBa:GAb->Avy
 |.c0 a b d e f g h i j l n o p q t=>(tdo Tryz.f45 232,[vp 4 256,vp 6 384,vr 13 78 a,vi 14 b,vi 15 d],[(256,.var [.str e,li f,.own 1016386,li g,.str h,li i]),(384,.var [.str j,li l,.own 1024578,li n,.str o,li p]),(1016386,.sl 76 q),(1024578,.sl 76 t)])
def MA3 (c:Ql) (e:AwA) (k:Aw7 GAb (Bo×Bool)):qx:=fun d b=>mk ((c d).bind fun a=>k (.c0 b (Arb b) 0 IK 0 0 IK 0 a.Bv a.DU a.BM (Aql a) a.fCount [] (DC a)))
def AFe (a:Ql) (b:AwA) (k:Aw7 GAb (Bo×Bool)):Aw7 GAb (Bo×Bool)
 |.c0 e f d n o p q r g h j l m s i=>mk (cond (Aqt d f) (cond (AwI d e.length) ((b ⟨g,h,i,j,l,m⟩ (Yp e d IK ⟨0,0,false,false,false,false,IK,0⟩)).bind fun c=>cond (!c.2) (some (AwT,false)) (k (.c0 e f (ArO d) n o p q r c.1.Bv c.1.DU c.1.BM (Aql c.1) c.1.fCount s (DC c.1)))) none) (some (⟨g,h,i,j,l,m⟩,true)))
def mG:AzH GAb (Bo×Bool)
 |0,_=>none
 |m+1,s=>AFe dY qG (mG m) s
def BAn:qx:=MA3 dY qG (mG AY)
def VBa:Awe:=fy u2 BAn AUx AEm [WA2,BBG] Tryz.func45 UBa AFe MA3 mG
def NA3 (h:XE) (i:XF) (l:Om) (m:qx) (n:MH) (o:Aqr):VI:=fun j d=>mk ((h d ArB).bind fun a=>(i j a.1).bind fun b=>l.bind fun e=>(m e b.1).bind fun c=>(n d).bind fun f=>cond (!f) (some (AwT,[],false)) (cond (!c.2) (some (AwT,[],false)) ((o d AsD).bind fun g=>cond (JD g) (cond (b.2 == (TT a.1)) (some (c.1,[⟨4,AsD,IK,IK⟩],true)) (cond (GK b.2 (TT a.1)) (some (c.1,FAu a.1 b.2,true)) none)) (cond (b.2 == (TT a.1)) (some (c.1,[],true)) (cond (GK b.2 (TT a.1)) (some (c.1,[⟨1,AsD,P5 a.1 b.2,IK⟩,⟨2,AsD,IK,IK⟩,⟨3,AsD,IK,ArB⟩],true)) none)))))
def mJ:VI:=NA3 xX xw X4 BAn Vu aW
def JBG:Awe:=BI u2 mJ AUy AUz [EBG,IBG,YAl,VBa,KAm,IAm] Tryz.func48 NA3
def OA3 (c:AAU):MJ:=fun b d=>mk ((c b d).bind fun a=>cond (Av8 a) (some (⟨0,0,false,false,false,false,IK,0⟩,false)) (cond (AwI a (Ig b)) (some (AwS (DC b) a ⟨0,0,false,false,false,false,IK,0⟩,true)) none))
def SH:MJ:=OA3 zh
def CAn:Awe:=BI u2 SH AKo Yb [XA2] Tryz.func54 OA3
inductive HAb where
 |c0 (a:(List CS)) (b d:Int) (e:Ap)
def WBa:HAb->Avy
 |.c0 b d e a=>(tdo Tryz.f84 104,[vp 1 64,vr 8 157 b,vi 9 d,vi 10 e],[(64,.var [.str a.BO,.bool a.CZ,.BG 90 a.Bc.Ak,.str a.AU.Bv,li a.AU.DU,.BG 76 a.AU.AZ,li a.AU.BM,.str a.AU.Dh,li a.AU.fCount,.BG 127 a.BP,.BG 157 a.BD,li a.CW])])
def PA3 (b:MJ) (c:AqW) (k:Aw7 HAb Bool):Ot:=fun a=>mk (k (.c0 (He a) (MI a:Int) 0 a))
def DAn (a:MJ) (b:AqW) (k:Aw7 HAb Bool):Aw7 HAb Bool
 |.c0 d g c e=>mk (cond (Aqt c g) (cond (AwI c d.length) ((a (DX e) (Pq d c).fId).bind fun f=>cond (!f.2) (some false) (cond (f.1.Aj != 2) (some false) ((b (Pq d c).fNext 0 f.1.fNext).bind fun h=>cond (!h) (some false) (cond (Avi c) (cond (AwE (Lr c) (MI e:Int)) (cond (VN ((He e).getD (Aqq (c - 1)) SAh).fId (Pq d c).fId) (some false) (k (.c0 d g (ArO c) e))) none) (k (.c0 d g (ArO c) e)))))) none) (some true))
def mM:AzH HAb Bool
 |0,_=>none
 |m+1,s=>DAn SH Fv (mM m) s
def x9:Ot:=PA3 SH Fv (mM AY)
def XBa:Awe:=fy u1 x9 RD E8 [CAn,Aqs] Tryz.func84 WBa DAn PA3 mM
inductive JAb where
 |c0 (a:(List EG)) (b d:Int) (e:Ap)
def YBa:JAb->Avy
 |.c0 b d e a=>(tdo Tryz.f40 488,[vp 1 64,vr 44 127 b,vi 45 d,vi 46 e],[(64,.var [.str a.BO,.bool a.CZ,.BG 90 a.Bc.Ak,.str a.AU.Bv,li a.AU.DU,.BG 76 a.AU.AZ,li a.AU.BM,.str a.AU.Dh,li a.AU.fCount,.BG 127 a.BP,.BG 157 a.BD,li a.CW])])
def QA3 (e:MH) (f:AqW) (g:Om) (h:ZA) (i:VI) (j:AqC) (l:Ot) (k:Aw7 JAb Bool):Ot:=fun a=>mk (cond ((TT a.BO) != 32) (some false) ((e a.Bc).bind fun b=>cond (!b) (some false) ((f (Ar7 a) 0 1000).bind fun c=>cond (!c) (some false) (cond (!a.CZ) (C9 (Aq6 (Fe a:Int)) (C9 (Aq6 (MI a:Int)) (g.bind fun d=>WU (h (DX a) d)) (some false)) (some false)) (k (.c0 (Es a) (Fe a:Int) 0 a))))))
def yA (a:MH) (b:AqW) (c:Om) (d:ZA) (e:VI) (f:AqC) (g:Ot) (k:Aw7 JAb Bool):Aw7 JAb Bool
 |.c0 j m h i=>mk (cond (Aqt h m) (cond (AwI h j.length) (cond (h>=3) (some false) ((b (Ap7 j h ⟨0,false⟩).fId 1 (Ar7 i)).bind fun n=>cond (!n) (some false) (cond (Avi h) (cond (AwE (Lr h) (Fe i:Int)) (cond (VN ((Es i).getD (Aqq (h - 1)) (⟨0,false⟩:EG)).fId (Ap7 j h ⟨0,false⟩).fId) (some false) (k (.c0 j m (ArO h) i))) none) (k (.c0 j m (ArO h) i))))) none) ((e i.BO i.Bc).bind fun l=>Sl (f (DX i)) (C9 l.2.2 (C9 (Aq6 (Qi l.2.1)) (Sl (d l.1 (DX i)) (WU (g i)) (some false)) (some false)) (some false)) (some false)))
def mO:AzH JAb Bool
 |0,_=>none
 |m+1,s=>yA Vu Fv X4 xW mJ qF x9 (mO m) s
def Zg:Ot:=QA3 Vu Fv X4 xW mJ qF x9 (mO AY)
def KBG:Awe:=fy u1 Zg RD E8 [KAm,Aqs,YAl,MBa,JBG,ZBF,XBa] Tryz.func40 YBa yA QA3 mO
def RA3 (e:Ot) (f:VI) (g:U5):qy:=fun a=>mk (cond a.CZ (some (⟨IK,false,IZ,AwT,[],[],0⟩,false)) ((e a).bind fun d=>cond (!d) (some (⟨IK,false,IZ,AwT,[],[],0⟩,false)) ((f a.BO a.Bc).bind fun b=>(g a.Bc b.2.1).bind fun c=>cond (!b.2.2) (some (⟨IK,false,IZ,AwT,[],[],0⟩,false)) (cond (Aqt c.2 (Qi b.2.1)) (some (⟨IK,false,IZ,AwT,[],[],0⟩,false)) (some (⟨a.BO,true,c.1,b.1,[],[],0⟩,true))))))
def EAn:qy:=RA3 Zg mJ nY
def ZBa:Awe:=BI u1 EAn RD AEn [KBG,JBG,TA2] Tryz.func66 RA3
def SA3:Qj:=fun a b c=>mk (cond (NV a.Bq) (cond (AqV (ArN a)) (some ⟨a.AX,a.Bq++[b],(ArN a)++[c],a.Cm,a.CO⟩) none) none)
def WB:Qj:=SA3
def TA3:Awe:=BI u3 WB AVO VB [] Tryz.func67 SA3 [0]
def UA3 (d:qy) (c:Qj):JAh:=fun a=>mk ((d a.AX).bind fun b=>cond (!b.2) (La (c a 1 IK)) (La (c ⟨b.1,a.Bq,ArN a,a.Cm,a.CO⟩ 0 IK)))
def Xy:JAh:=UA3 EAn WB
def AkF:Awe:=BI u1 Xy VB VB [ZBa,TA3] Tryz.func31 UA3 [0]
def VA3:eX:=fun a=>mk (cond (AwI a (10:Nat)) (some ([],a,Tf [Ap1 IK,Ap1 fE,Ap1 ⟨#[115,101,115,115,105,111,110]⟩,Ap1 ⟨#[108,111,99,107,101,100]⟩,Ap1 ⟨#[119,111,114,100]⟩,rG,Ap1 NAU,Ap1 ⟨#[110,111,110,101]⟩,Ap1 ZF,Ap1 ⟨#[100,111,119,110]⟩] a IK)) none)
def YB:eX:=VA3
def LAb:Awe:=BI u1 YB FN Oh [] Tryz.func111 VA3
def LBG:Bl:=fun a=>mk (cond (WV a) (Arm (Ll a (ArO a) (TT AQ1)) (some (AQ1.extract (BN a) (Oo a)))) (Arm (Ll (Ad (a*2)) (Ad ((Ad (a*2))+2)) (TT WAt)) (some (U0 WAt (a*2) ((Ad (a*2))+2)))))
def internal_strconv_small:Bl:=LBG
def BBb:Awe:=BI u1 internal_strconv_small FN Cc [] Tryz.func288 LBG
def internal_strconv_numDigits:Qc:=fun _=>none
def CBb:Awe:=fs u1 internal_strconv_numDigits wX FN 289
def internal_strconv_formatBase10:eY:=fun _ _=>none
def DBb:Awe:=fs u2 internal_strconv_formatBase10 Ae1 Ae2 290
def MBG:UBC:=fun _ _ _ _ _=>none
def EBb:Awe:=fs u5 MBG Ae3 Ae4 291
def NBG (e:Bl) (b:Qc) (l:eY) (j:UBC):Yt:=fun a c=>mk (cond (c == 10) (cond (KD a) (cond (a<100) (Ap2 (e a)) (cond (Av8 a) ((b (Eb (0 - (Eb a)))).bind fun f=>none) ((b (Eb a)).bind fun g=>none))) (cond (Av8 a) ((b (Eb (0 - (Eb a)))).bind fun h=>none) ((b (Eb a)).bind fun i=>none))) ((j [] (Eb a) c (Av8 a) false).bind fun d=>some d.2))
def OBG:Yt:=NBG internal_strconv_small internal_strconv_numDigits internal_strconv_formatBase10 MBG
def FBb:Awe:=BI u2 OBG wP Cc [BBb,CBb,DBb,EBb] Tryz.func259 NBG
def PBG (a:Yt):Bl:=fun b=>mk (Ap2 (a b 10))
def internal_strconv_Itoa:Bl:=PBG OBG
def GBb:Awe:=BI u1 internal_strconv_Itoa FN Cc [FBb] Tryz.func222 PBG
def QBG (a:Bl):Bl:=fun b=>mk (Ap2 (a b))
def strconv_Itoa:Bl:=QBG internal_strconv_Itoa
def HBb:Awe:=BI u1 strconv_Itoa FN Cc [GBb] Tryz.func160 QBG
def RBG (a:Bl):Bl:=fun b=>mk (Ap2 (a b))
def Xc:Bl:=RBG strconv_Itoa
def WA3:Awe:=BI u1 Xc FN Cc [HBb] Tryz.func112 RBG
inductive MAb where
 |c0 (a:Int) (b:(List EG)) (d e:Int)
def IBb:MAb->Avy
 |.c0 a b d e=>(tdo Tryz.f113 104,[vi 1 a,vr 8 127 b,vi 9 d,vi 10 e],[])
def XA3 (k:Aw7 MAb Int):JC:=fun a b=>mk (k (.c0 b (Es a) (Fe a:Int) 0))
def FAn (k:Aw7 MAb Int):Aw7 MAb Int
 |.c0 d b c a=>mk (cond (Aqt a c) (cond (AwI a b.length) (cond ((Ap7 b a ⟨0,false⟩).fId == d) (some a) (k (.c0 d b c (ArO a)))) none) AwO)
def mQ:AzH MAb Int
 |0,_=>none
 |m+1,s=>FAn (mQ m) s
def mP:JC:=XA3 (mQ AY)
def SBG:Awe:=fy u2 mP wU FN [] Tryz.func113 IBb FAn XA3 mQ
def YA3 (c:eX) (e:CG):Jl:=fun a f=>mk (cond ((Aqa a)>=3) (Ia (c 3)) ((e f.fText).bind fun d=>cond (!(Avd d (DX a).Bv)) ((c 4).bind fun b=>some ([⟨2,IK,ArO (Aqa a),⟨0,0,false,false,false,false,IK,0⟩⟩],b.2.1,b.2.2)) (cond (Aq6 (Aqa a)) (some ([],0,IK)) (some ([⟨2,IK,0,⟨0,0,false,false,false,false,IK,0⟩⟩],0,IK)))))
def GAn:Jl:=YA3 YB Ap8
def JBb:Awe:=BI u2 GAn bM Oh [LAb,RJ] Tryz.func114 YA3
def ZA3 (d:CG):qQ:=fun a b=>mk (cond (a == 1) ((d b).bind fun c=>some (⟨0,a,true,false,false,true,c,0⟩,true)) (cond (a == 2) ((d b).bind fun e=>some (⟨0,a,true,false,true,false,e,0⟩,true)) (cond (a == 3) (cond ((TT b)<=100) (some (⟨0,a,false,false,false,false,b,0⟩,true)) (some (⟨0,0,false,false,false,false,IK,0⟩,false))) (some (⟨0,0,false,false,false,false,IK,0⟩,false)))))
def HAn:qQ:=ZA3 Ap8
def KBb:Awe:=BI u2 HAn AKr Yb [RJ] Tryz.func161 ZA3
def AOS (e:eX) (c:Bl):Yz:=fun b d a j=>mk (cond (!j) (Ia (e 6)) (cond ((Lu (DX b))>=8) (Ia (e 1)) (cond ((Aqk b)>=1000) (Ia (e 1)) (cond (AqD a) (cond (FK a) ((c (AqI b)).bind fun f=>some ([⟨3,IK,0,⟨AqI b,a.Aj,true,true,Me a,ArU a,Td a,a.fNext⟩⟩],0,f)) ((c (AqI b)).bind fun g=>some ([⟨3,IK,0,⟨AqI b,a.Aj,true,d.CX,Me a,ArU a,Td a,a.fNext⟩⟩],0,g))) (cond (FK a) ((c (AqI b)).bind fun h=>some ([⟨3,IK,0,⟨AqI b,a.Aj,d.CY,true,Me a,ArU a,Td a,a.fNext⟩⟩],0,h)) ((c (AqI b)).bind fun i=>some ([⟨3,IK,0,⟨AqI b,a.Aj,d.CY,d.CX,Me a,ArU a,Td a,a.fNext⟩⟩],0,i)))))))
def yY:Yz:=AOS YB Xc
def TBG:Awe:=BI u4 yY AVP Oh [LAb,WA3] Tryz.func162 AOS
def BA4 (h:Bl) (f:qQ) (g:Yz):Jl:=fun c a=>mk (cond (a.Aj == 2) ((h (AqI c)).bind fun b=>cond (KZ b fG) (cond (KZ (b++fG) a.fText) ((f a.Aj ((b++fG)++a.fText)).bind fun d=>Ia (g c a d.1 d.2)) none) none) ((f a.Aj a.fText).bind fun e=>Ia (g c a e.1 e.2)))
def IAn:Jl:=BA4 Xc HAn yY
def LBb:Awe:=BI u2 IAn bM Oh [WA3,KBb,TBG] Tryz.func115 BA4
def CA4 (b:CG):ArW:=fun a=>mk (Arm (KZ rG a.BO) (Ap2 (b (rG++a.BO))))
def yZ:ArW:=CA4 Ap8
def UBG:Awe:=BI u1 yZ RD Cc [RJ] Tryz.func164 CA4
def DA4 (d e:Bl):CG:=fun b=>mk ((d (TT b)).bind fun a=>Arm (KZ a b) ((e ((Ad (16 - ((TT (a++b)).tmod 16))).tmod 16)).bind fun c=>Arm (Gx a b c) (some ((a++b)++c))))
def yc:CG:=DA4 WS X7
def VBG:Awe:=BI u1 yc Cc Cc [fO,QAl] Tryz.func224 DA4
def EA4 (d:Tn) (g:IAh) (h:CG):Avk:=fun e f=>mk ((d e 0 f).bind fun b=>(g b.1 0).bind fun a=>cond (!b.2) (Ar2 (IK,false)) (cond (!a.2.2) (Ar2 (IK,false)) (cond ((TT a.1) > 400) (Ar2 (IK,false)) ((h a.1).bind fun c=>cond (!(Avd c b.1)) (Ar2 (IK,false)) (Ar2 (a.1,true))))))
def JAn:Avk:=EA4 l9 WC yc
def MBb:Awe:=BI u2 JAn KJ IQ [FBG,GBG,VBG] Tryz.func163 EA4
def WBG:qR:=fun a=>mk (some ⟨0,a.Aj,AqD a,FK a,false,ArU a,Td a,0⟩)
def FA4:qR:=WBG
def NBb:Awe:=BI u1 FA4 S9 S9 [] Tryz.func166 WBG
def GA4 (h:ArW) (i:Avk) (j:Y1) (l:qR) (g:Yz):Jl:=fun a c=>mk ((h a).bind fun f=>(i f c.fText).bind fun b=>(j b.1).bind fun d=>(l d.1).bind fun e=>cond b.2 (Ia (g a c e d.2)) (Ia (g a c e false)))
def KAn:Jl:=GA4 yZ JAn AqX FA4 yY
def OBb:Awe:=BI u2 KAn bM Oh [UBG,MBb,HBG,NBb,TBG] Tryz.func116 GA4
def HA4 (d:Arl):qU:=fun a b=>mk ((d a).bind fun c=>C9 (!c) (some false) (C9 (b == 1) (some (!(AqD a))) (C9 (b == 2) (C9 (!(FK a)) (some (a.Aj != 2)) (some false)) (C9 (b == 3) (some (Me a)) (C9 (b == 4) (some (ArU a)) (some (b == 5)))))))
def LAn:qU:=HA4 WR
def PBb:Awe:=BI u2 LAn AVT E8 [XAZ] Tryz.func167 HA4
inductive QAb where
 |c0 (a:Int) (b:(List CS)) (d e:Int)
def QBb:QAb->Avy
 |.c0 a b d e=>(tdo Tryz.f120 104,[vi 1 a,vr 8 157 b,vi 9 d,vi 10 e],[])
def IA4 (k:Aw7 QAb Int):JC:=fun a b=>mk (k (.c0 b (He a) (MI a:Int) 0))
def MAn (k:Aw7 QAb Int):Aw7 QAb Int
 |.c0 d b c a=>mk (cond (Aqt a c) (cond (AwI a b.length) (cond ((Pq b a).fId == d) (some a) (k (.c0 d b c (ArO a)))) none) AwO)
def nI:AzH QAb Int
 |0,_=>none
 |m+1,s=>MAn (nI m) s
def YG:JC:=IA4 (nI AY)
def JA4:Awe:=fy u2 YG wU FN [] Tryz.func120 QBb MAn IA4 nI
def KA4 (e:MJ) (f:JC):JC:=fun b d=>mk ((e (DX b) d).bind fun a=>cond (!a.2) AwO (cond (a.1.Aj != 2) AwO ((f b d).bind fun c=>cond (JD c) (cond (AwI c (MI b)) (some (Pq (He b) c).fNext) none) (some a.1.fNext))))
def AqU:JC:=KA4 SH YG
def XBG:Awe:=BI u2 AqU wU FN [CAn,JA4] Tryz.func70 KA4
def LA4 (b:CG):CG:=fun c=>mk ((b c).bind fun a=>Arm ((Avv DI LC) && (decide (4<=(TT a)))) (some (P5 a LC)))
def AwR:CG:=LA4 Ap8
def RAb:Awe:=BI u1 AwR Cc Cc [RJ] Tryz.func336 LA4
inductive SAb where
 |c0 (a:AA) (b d:Int) (e:(List AA))
def RBb:SAb->Avy
 |.c0 a b d e=>(tdo Tryz.f295 232,[vs 0 a,vi 1 b,vo 5 368,vi 7 d],[(368,.sl 9 e)])
def MA4 (c:Bl) (d:CG) (k:Aw7 SAb (List AA)):ArV:=fun a b=>k (.c0 a b 0 [])
def NAn (a:Bl) (b:CG) (k:Aw7 SAb (List AA)):Aw7 SAb (List AA)
 |.c0 d h f g=>mk (cond (WV f) ((a h).bind fun c=>cond (KZ d c) ((a f).bind fun e=>cond (Gx d c e) (cond (KZ ((d++c)++e) (Ap1 ⟨#[111]⟩)) ((b (((d++c)++e)++(Ap1 ⟨#[111]⟩))).bind fun i=>cond (AqV g) (k (.c0 d h (ArO f) (g++[i]))) none) none) none) none) (some g))
def bV:AzH SAb (List AA)
 |0,_=>none
 |m+1,s=>NAn Ar3 AwR (bV m) s
def mV:ArV:=MA4 Ar3 AwR (bV AY)
def YBG:Awe:=fy u2 mV Q9 VD [VT,RAb] Tryz.func295 RBb NAn MA4 bV
def NA4:Qc:=fun a=>some 0
def OAn:Qc:=NA4
def SBb:Awe:=BI u1 OAn FN FN [] Tryz.func362 NA4
def OA4:Qc:=fun a=>some 15
def PAn:Qc:=OA4
def TBb:Awe:=BI u1 PAn FN FN [] Tryz.func363 OA4
inductive TAb where
 |c0 (a:AA) (b d:Int) (e f g:Int)
def UBb:TAb->Avy
 |.c0 a b d e f g=>(tdo Tryz.f335 104,[vs 0 a,vi 1 b,vi 2 d,vi 3 e,vi 13 f,vi 14 g],[])
def PA4 (f:Bl) (g:CG) (k:Aw7 TAb AA):Aqf:=fun b c d e a=>k (.c0 b c d e (ite (15<a) 15 a) 0)
def QAn (a:Bl) (b:CG) (k:Aw7 TAb AA):Aw7 TAb AA
 |.c0 g i j l h f=>mk (cond (Aqt f h) ((a i).bind fun c=>(a j).bind fun d=>cond (KZ c d) ((a (Fb l f)).bind fun e=>cond (Gx c d e) (cond (Gx (c++d) e g) ((b (((c++d)++e)++g)).bind fun m=>k (.c0 m i j l h (ArO f))) none) none) none) (some g))
def mW:AzH TAb AA
 |0,_=>none
 |m+1,s=>QAn Ar3 AwR (mW m) s
def V3:Aqf:=PA4 Ar3 AwR (mW AY)
def ZBG:Awe:=fy u5 V3 AVU Cc [VT,RAb] Tryz.func335 UBb QAn PA4 mW
inductive UAb where
 |c0 (a:Int) (b d:Nat) (e:AA) (f:(List AA)) (g h:Int)
def VBb:UAb->Avy
 |.c0 a b d e f g h=>(tdo Tryz.f361 488,[vi 1 a,(2,[.one (.fn b)]),(3,[.one (.fn d)]),vs 9 e,vr 15 9 f,vi 16 g,vi 17 h],[])
def QA4 (e f:Qc) (g:Aqf) (h:CG) (k:Aw7 UAb AA):QAt:=fun a b c d=>mk (cond ((En a) != 10) Rl (k (.c0 b c d IK a (En a) 0)))
def RAn (a b:Qc) (c:Aqf) (d:CG) (k:Aw7 UAb AA):Aw7 UAb AA
 |.c0 j i f h g l e=>mk (cond (Aqt e l) (cond (OL e g) (cond (Nat.beq i 268) none (cond (Nat.beq i 342) none (cond (Nat.beq i 362) ((a e).bind fun m=>cond (Nat.beq f 268) none (cond (Nat.beq f 342) none (cond (Nat.beq f 362) ((a e).bind fun s=>(c (Tf g e IK) j e m s).bind fun n=>cond (KZ h n) (k (.c0 j i f (h++n) g l (ArO e))) none) (cond (Nat.beq f 363) ((b e).bind fun t=>(c (Tf g e IK) j e m t).bind fun o=>cond (KZ h o) (k (.c0 j i f (h++o) g l (ArO e))) none) none)))) (cond (Nat.beq i 363) ((b e).bind fun p=>cond (Nat.beq f 268) none (cond (Nat.beq f 342) none (cond (Nat.beq f 362) ((a e).bind fun u=>(c (Tf g e IK) j e p u).bind fun q=>cond (KZ h q) (k (.c0 j i f (h++q) g l (ArO e))) none) (cond (Nat.beq f 363) ((b e).bind fun v=>(c (Tf g e IK) j e p v).bind fun r=>cond (KZ h r) (k (.c0 j i f (h++r) g l (ArO e))) none) none)))) none)))) none) (Ap2 (d h)))
def YC:AzH UAb AA
 |0,_=>none
 |m+1,s=>RAn OAn PAn V3 AwR (YC m) s
def RA4:QAt:=QA4 OAn PAn V3 AwR (YC AY)
def WBb:Awe:=fy u4 RA4 Ae5 Cc [SBb,TBb,ZBG,RAb] Tryz.func361 VBb RAn QA4 YC
def SA4 (a:QAt):Y2:=fun b c=>mk (Ap2 (a b c 362 363))
def yD:Y2:=SA4 RA4
def XBb:Awe:=BI u2 yD wV Cc [WBb] Tryz.func333 SA4
inductive WAb where
 |c0 (a:AA) (b:Int) (d:(List AA))
def YBb:WAb->Avy
 |.c0 a b d=>(tdo Tryz.f293 232,[vs 0 a,vo 3 240,vi 5 b],[(240,.sl 9 d)])
def TA4 (b:ArV) (c:Y2) (k:Aw7 WAb (List AA)):Y3:=fun a=>k (.c0 a 0 [])
def SAn (a:ArV) (b:Y2) (k:Aw7 WAb (List AA)):Aw7 WAb (List AA)
 |.c0 f c d=>mk (cond (c<4) ((a f c).bind fun e=>(b e c).bind fun g=>cond (AqV d) (k (.c0 f (ArO c) (d++[g]))) none) (some d))
def mX:AzH WAb (List AA)
 |0,_=>none
 |m+1,s=>SAn mV yD (mX m) s
def yE:Y3:=TA4 mV yD (mX AY)
def AZ4:Awe:=fy u1 yE Cc VD [YBG,XBb] Tryz.func293 YBb SAn TA4 mX
def UA4 (e:Bl) (h:CG):Y4:=fun f g c d=>mk ((e f).bind fun a=>(e g).bind fun b=>Arm (KZ a b) (Arm (Gx a b c) (Arm (Gx (a++b) c d) (Arm (KZ (((a++b)++c)++d) (Ap1 ⟨#[110]⟩)) (Ap2 (h ((((a++b)++c)++d)++(Ap1 ⟨#[110]⟩))))))))
def YD:Y4:=UA4 Ar3 AwR
def ZBb:Awe:=BI u4 YD AVV Cc [VT,RAb] Tryz.func360 UA4
inductive YAb where
 |c0 (a:Int) (b:(List AA)) (d:Int) (e:(List AA))
def AoZ:YAb->Avy
 |.c0 a b d e=>(tdo Tryz.f332 464,[vi 0 a,vr 1 9 b,vo 5 368,vi 6 d],[(368,.sl 9 e)])
def TAn (c:Y4) (k:Aw7 YAb (List AA)):Rf:=fun a b=>k (.c0 a b 0 [])
def yF (a:Y4) (k:Aw7 YAb (List AA)):Aw7 YAb (List AA)
 |.c0 f c b d=>mk (cond (Aqt (ArO b) (En c)) (cond (OL b c) (cond (AwE (ArO b) (En c)) ((a f (Nh b) (Tf c b IK) (Tf c (ArO b) IK)).bind fun e=>cond (AqV d) (k (.c0 f c (Ad (b+2)) (d++[e]))) none) none) none) (some d))
def YE:AzH YAb (List AA)
 |0,_=>none
 |m+1,s=>yF YD (YE m) s
def V4:Rf:=TAn YD (YE AY)
def BBH:Awe:=fy u2 V4 AVW VD [ZBb] Tryz.func332 AoZ yF TAn YE
inductive ACN where
 |c0 (a:(List AA)) (b:Int)
 |c1 (b:Int) (a:(List AA))
def BBc:ACN->Avy
 |.c0 a b=>(tdo Tryz.f292 464,[vr 0 9 a,vi 3 b],[])
 |.c1 b a=>(tdo Tryz.f292 464,[vo 0 48,vi 3 b],[(48,.sl 9 a)])
def VA4 (b:Rf) (k:Aw7 ACN AA):qV:=fun a=>mk (cond ((En a) != 4) Rl (k (.c0 a 1)))
def UAn (a:Rf) (k:Aw7 ACN AA):Aw7 ACN AA
 |.c0 b d=>mk (cond ((En b) > 1) ((a d b).bind fun c=>k (.c1 (ArO d) c)) (QAU b))
 |.c1 d b=>mk (cond ((En b) > 1) ((a d b).bind fun c=>k (.c1 (ArO d) c)) (QAU b))
def mZ:AzH ACN AA
 |0,_=>none
 |m+1,s=>UAn V4 (mZ m) s
def VAn:qV:=VA4 V4 (mZ AY)
def CBc:Awe:=fy u1 VAn AVX Cc [BBH] Tryz.func292 BBc UAn VA4 mZ
def WA4 (b:Y3) (d:qV):CG:=fun c=>mk ((b c).bind fun a=>Ap2 (d a))
def mg:CG:=WA4 yE VAn
def CBH:Awe:=BI u1 mg Cc Cc [AZ4,CBc] Tryz.func260 WA4
inductive BAc where
 |c0 (a:Int) (d:AA) (e:Int) (b:(List Int))
 |c1 (a f g:Int) (b:(List Int))
def DBc:BAc->Avy
 |.c0 a d e b=>(tdo Tryz.f334 1000,[vo 3 240,vi 4 a,vs 5 d,vi 11 e],[(240,.sl 3 b)])
 |.c1 a f g b=>(tdo Tryz.f334 2024,[vo 3 240,vi 4 a,vo 28 240,vi 29 f,vi 30 g],[(240,.sl 3 b)])
def XA4 (b:CG) (k:Aw7 BAc (List Int)):Hw:=fun c=>(b c).bind fun a=>k (.c0 0 a 0 [])
def nC (a:CG) (k:Aw7 BAc (List Int)):Aw7 BAc (List Int)
 |.c0 e c b d=>mk (cond (b<4) (cond (AwE b (TT c)) (cond (AwE b (TT c)) (cond (Av2 ((d.length+2)*8)) (k (.c0 e c (ArO b) (d++[Ad (OG (bt c b) (MV (BN LC) AqS)),Ad (w8 ((BitVec.toNat ((BitVec.ofInt AqS (bt c b)) &&& (BitVec.ofInt AqS 15)):Nat):Int))]))) none) none) none) (k (.c1 e (AsC d) 0 d)))
 |.c1 d e c b=>mk (cond (Aqt c e) (cond (Dt c b) (k (.c1 (Fb d (Ad (15 - (GZ b c)))) e (ArO c) b)) none) (AwM (Av2 ((b.length+2)*8)) (Ej (b++[fJ d,d.tmod 16]))))
def V5:AzH BAc (List Int)
 |0,_=>none
 |m+1,s=>nC AwR (V5 m) s
def yG:Hw:=XA4 AwR (V5 AY)
def EBc:Awe:=fy u1 yG Cc JZ [RAb] Tryz.func334 DBc nC XA4 V5
inductive DAc where
 |c0 (a:Int) (b:(List AA)) (d e:Int) (f:(List Int)) (g:(List AA))
def FBc:DAc->Avy
 |.c0 a b d e f g=>(tdo Tryz.f294 1000,[vi 1 a,vo 7 496,vo 8 560,vr 16 9 b,vi 17 d,vi 18 e],[(496,.sl 3 f),(560,.sl 9 g)])
def YA4 (c:Hw) (f:Aqf) (k:Aw7 DAc (List AA)):qW:=fun a e d=>mk (cond ((En a) != 10) (some []) ((c d).bind fun b=>k (.c0 e a (En a) 0 b [])))
def WAn (a:Hw) (b:Aqf) (k:Aw7 DAc (List AA)):Aw7 DAc (List AA)
 |.c0 i d g c e f=>mk (cond (Aqt c g) (cond (OL c d) (cond (Dt c e) ((b (Tf d c IK) i c 0 (GZ e c)).bind fun h=>cond (AqV f) (k (.c0 i d g (ArO c) e (f++[h]))) none) none) none) (some f))
def nD:AzH DAc (List AA)
 |0,_=>none
 |m+1,s=>WAn yG V3 (nD m) s
def XAn:qW:=YA4 yG V3 (nD AY)
def GBc:Awe:=fy u3 XAn AVY VD [EBc,ZBG] Tryz.func294 FBc WAn YA4 nD
inductive EAc where
 |c0 (a:(List AA)) (b d:Int) (e:(List AA))
 |c1 (b d:Int) (a e:(List AA))
def IBc:EAc->Avy
 |.c0 a b d e=>(tdo Tryz.f296 976,[vr 0 9 a,vi 1 b,vo 5 368,vi 6 d],[(368,.sl 9 e)])
 |.c1 b d a e=>(tdo Tryz.f296 976,[vo 0 48,vi 1 b,vo 5 368,vi 6 d],[(48,.sl 9 a),(368,.sl 9 e)])
def ZA4 (d:AqW) (e:Rf) (k:Aw7 EAc (List AA)):qX:=fun a c=>mk (cond ((En a) != 4) (some []) ((d c 0 3).bind fun b=>cond (!b) (some []) (k (.c0 a c 1 []))))
def YAn (a:AqW) (b:Rf) (k:Aw7 EAc (List AA)):Aw7 EAc (List AA)
 |.c0 c d g e=>mk (cond ((En c) > 1) (cond (AwE (Ad (GAU d)) (En c)) (cond (AqV e) ((b g c).bind fun f=>k (.c1 (Nh d) (ArO g) f (e++[c.getD (Aqq (GAU d)) (Ap1 IK)]))) none) none) (some e))
 |.c1 d g c e=>mk (cond ((En c) > 1) (cond (AwE (Ad (GAU d)) (En c)) (cond (AqV e) ((b g c).bind fun f=>k (.c1 (Nh d) (ArO g) f (e++[c.getD (Aqq (GAU d)) (Ap1 IK)]))) none) none) (some e))
def YF:AzH EAc (List AA)
 |0,_=>none
 |m+1,s=>YAn Fv V4 (YF m) s
def ZAn:qX:=ZA4 Fv V4 (YF AY)
def JBc:Awe:=fy u2 ZAn wV VD [Aqs,BBH] Tryz.func296 IBc YAn ZA4 YF
def ANk (h:AqW) (i:ArV) (j:qW) (m:Y3) (n:qX):qY:=fun d a l=>mk ((h a 0 3).bind fun b=>cond (!b) (some (Avj,false)) ((i d a).bind fun c=>(j c a l).bind fun e=>(m d).bind fun f=>(n f a).bind fun g=>some (⟨a,e,g⟩,true)))
def nG:qY:=ANk Fv mV XAn yE ZAn
def KBc:Awe:=BI u3 nG VA AVZ [Aqs,YBG,GBc,AZ4,JBc] Tryz.func261 ANk
def BA5 (i:AqW) (j:Bl) (l:CG) (g:qY):qZ:=fun a c m=>mk ((i c 0 15).bind fun e=>cond (!e) (some (⟨Avj,IK,Avj⟩,false)) ((j (ZJ c)).bind fun b=>cond (KZ a b) (cond (KZ (a++b) rH) ((l ((a++b)++rH)).bind fun d=>(g ((a++b)++rH) (c.tmod 4) m).bind fun f=>cond (KZ a AsI) ((g (a++AsI) (ZJ c) d).bind fun h=>some (⟨h.1,d,f.1⟩,true)) none) none) none))
def AF2:qZ:=BA5 Fv Ar3 mg nG
def LBc:Awe:=BI u3 AF2 VA AVa [Aqs,VT,CBH,KBc] Tryz.func227 BA5
inductive FAc where
 |c0 (a:(List AA)) (b:Int) (d:(List AA)) (e f:Int)
def MBc:FAc->Avy
 |.c0 a b d e f=>(tdo Tryz.f337 104,[vr 0 9 a,vi 1 b,vr 7 9 d,vi 8 e,vi 9 f],[])
def CA5 (k:Aw7 FAc Bool):RAt:=fun a b=>mk (k (.c0 a b a (En a) 0))
def DA5 (k:Aw7 FAc Bool):Aw7 FAc Bool
 |.c0 d e b c a=>mk (cond (Aqt a c) (cond (OL a b) (cond ((TT (Tf b a IK)) != 4) (some false) (k (.c0 d e b c (ArO a)))) none) (some ((En d) == e)))
def yH:AzH FAc Bool
 |0,_=>none
 |m+1,s=>DA5 (yH m) s
def BAo:RAt:=CA5 (yH AY)
def NBc:Awe:=fy u2 BAo wV E8 [] Tryz.func337 MBc DA5 CA5 yH
def EA5 (c:AqW) (b:RAt):XI:=fun a=>mk (Sl (c a.Dv 0 3) (Sl (b a.Fg 10) (WU (b a.Gn 2)) (some false)) (some false))
def yI:XI:=EA5 Fv BAo
def OBc:Awe:=BI u1 yI AEo E8 [Aqs,NBc] Tryz.func297 EA5
inductive IAc where
 |c0 (a:AA) (b:(List AA)) (d e:Int) (f:IL)
 |c1 (a:AA) (g:(List AA)) (h i:Int)
def PBc:IAc->Avy
 |.c0 a d e f b=>(tdo Tryz.f262 488,[vp 1 64,vs 4 a,vr 16 9 d,vi 17 e,vi 18 f],[(64,.var [li b.Dv,.BG 9 b.Fg,.BG 9 b.Gn])])
 |.c1 a g h i=>(tdo Tryz.f262 1000,[vs 4 a,vr 27 9 g,vi 28 h,vi 29 i],[])
def FA5 (d:XI) (e:Bl) (k:Aw7 IAc (AA×Bool)):qc:=fun a=>mk ((d a).bind fun b=>cond (!b) (Ar2 (IK,false)) ((e a.Dv).bind fun c=>k (.c0 c a.Fg (En a.Fg) 0 a)))
def nH (a:XI) (b:Bl) (k:Aw7 IAc (AA×Bool)):Aw7 IAc (AA×Bool)
 |.c0 e d g c f=>mk (cond (Aqt c g) (cond (OL c d) (cond (KZ e (Tf d c IK)) (k (.c0 (e++(Tf d c IK)) d g (ArO c) f)) none) none) (k (.c1 e f.Gn (En f.Gn) 0)))
 |.c1 e d f c=>mk (cond (Aqt c f) (cond (OL c d) (cond (KZ e (Tf d c IK)) (k (.c1 (e++(Tf d c IK)) d f (ArO c))) none) none) (Ar2 (e,true)))
def V6:AzH IAc (AA×Bool)
 |0,_=>none
 |m+1,s=>nH yI Ar3 (V6 m) s
def CAo:qc:=FA5 yI Ar3 (V6 AY)
def QBc:Awe:=fy u1 CAo AEo IQ [OBc,VT] Tryz.func262 PBc nH FA5 V6
def GA5 (d:qc):qg:=fun a=>mk ((d a.QU).bind fun b=>(d a.QV).bind fun c=>cond (!b.2) (Ar2 (IK,false)) (cond (!c.2) (Ar2 (IK,false)) (cond ((TT a.QS) != 4) (Ar2 (IK,false)) (AqO (KZ b.1 a.QS) (AqO (KZ (b.1++a.QS) c.1) (Ar2 ((b.1++a.QS)++c.1,true)))))))
def DAo:qg:=GA5 CAo
def RBc:Awe:=BI u1 DAo AVb IQ [QBc] Tryz.func228 GA5
def HA5 (e:JC) (g:eX) (h:qZ) (j:qg):Rh:=fun f i a=>mk ((e f a.fId).bind fun b=>cond (b>=16) (Ia (g 1)) ((h (Td a) b i.fText).bind fun d=>(j d.1).bind fun c=>cond (b != a.fNext) (some ([],0,c.1)) (some ([⟨3,IK,0,⟨a.fId,a.Aj,AqD a,FK a,Me a,ArU a,Td a,ite (16<(Ad (a.fNext+3))) 16 (Ad (a.fNext+3))⟩⟩],0,c.1))))
def EAo:Rh:=HA5 AqU YB AF2 DAo
def SBc:Awe:=BI u3 EAo AEp Oh [XBG,LAb,LBc,RBc] Tryz.func168 HA5
def IA5 (d:CG) (e:Tn):Avk:=fun f b=>mk (cond ((TT b) > 400) (Ar2 (IK,false)) ((d b).bind fun c=>(e f 0 c).bind fun a=>Ar2 (a.1,a.2)))
def FAo:Avk:=IA5 yc yN
def TBc:Awe:=BI u2 FAo KJ IQ [VBG,UBF] Tryz.func169 IA5
inductive JAc where
 |c0 (a:AA) (b:Int) (d e:(List Int))
def UBc:JAc->Avy
 |.c0 a b d e=>(tdo Tryz.f365 232,[vs 0 a,vp 2 128,vp 3 192,vi 5 b],[(128,.ar 274 d),(192,.ar 274 e)])
def JA5 (k:Aw7 JAc (List Int)):Hw:=fun a=>mk (k (.c0 a 0 ZI ZI))
def KA5 (k:Aw7 JAc (List Int)):Aw7 JAc (List Int)
 |.c0 c b d a=>mk (cond (b<200) (cond (GL a) (cond (EZ (Awf b) a) (cond (AwE b (TT c)) (cond (KD (Ad (8*(b.tmod 8)))) (cond (GL a) (cond (EZ (Awf b) a) (k (.c0 c (ArO b) d (a.set (Aqq (Awf b)) (Eb (ZG AqE (Ld a (Awf b)) (Eb ((Eb (bt c b))*(MV (Aqq (8*(b.tmod 8))) AqE)))))))) none) none) none) none) none) none) (AwM (GL a) (AwM ((Rk a d) && (GL a)) (AwM ((GL a) && true) (Ej a)))))
def ng:AzH JAc (List Int)
 |0,_=>none
 |m+1,s=>KA5 (ng m) s
def GAo:Hw:=JA5 (ng AY)
def VBc:Awe:=fy u1 GAo Cc U9 [] Tryz.func365 UBc KA5 JA5 ng
def LA5:FX:=fun b a=>mk (cond (KD (Eb (64 - (WAh a)))) (some (Eb (ZG AqE (Eb (b*(MV (BN (WAh a)) AqE))) (OG b (MV (BN (Eb (64 - (WAh a)))) AqE))))) none)
def YI:FX:=LA5
def DBH:Awe:=BI u2 YI AVc wX [] Tryz.func385 LA5
inductive KAc where
 |c0 (e:(List Int)) (f:Int) (a b d:(List Int))
 |c1 (g:Int) (a b d:(List Int))
def WBc:KAc->Avy
 |.c0 e f a b d=>(tdo Tryz.f377 232,[vp 1 64,vp 2 128,vp 3 192,(8,[.arr 274 e]),vi 9 f],[(64,.ar 274 a),(128,.ar 274 b),(192,.ar 274 d)])
 |.c1 g a b d=>(tdo Tryz.f377 488,[vp 1 64,vp 2 128,vp 3 192,vi 21 g],[(64,.ar 274 a),(128,.ar 274 b),(192,.ar 274 d)])
def MA5 (b:FX) (k:Aw7 KAc (List Int)):Aq1:=fun a=>mk (cond (GL a) (k (.c0 a 0 a ZI [0,0,0,0,0])) none)
def yj (a:FX) (k:Aw7 KAc (List Int)):Aw7 KAc (List Int)
 |.c0 d b e f c=>mk (cond (b<25) (cond (GL d) (cond (Dt b d) (cond (Nat.beq 5 c.length) (cond (AwE (AqG b) (AsC c)) (cond (Nat.beq 5 c.length) (cond (AwE (AqG b) (AsC c)) (k (.c0 d (ArO b) e f (c.set (BN (AqG b)) (Eb (Ie AqE (GZ c (AqG b)) (GZ d b)))))) none) none) none) none) none) none) (k (.c1 0 e f c)))
 |.c1 c b f d=>mk (cond (c<25) (cond (GL b) (cond (Dt c b) (cond (Nat.beq 5 d.length) (cond (AwE (AqG (Ad ((AqG c)+4))) (AsC d)) (cond (Nat.beq 5 d.length) (cond (AwE (AqG (ArO (AqG c))) (AsC d)) ((a (GZ d (AqG (ArO (AqG c)))) 1).bind fun e=>cond (GL b) (cond (Dt c b) (k (.c1 (ArO c) (b.set (BN c) (Eb (Ie AqE (GZ b c) (Eb (Ie AqE (GZ d (AqG (Ad ((AqG c)+4)))) e))))) f d)) none) none) none) none) none) none) none) none) (AwM (GL b) (AwM ((Rk b f) && (GL b)) (AwM ((GL b) && true) (Ej b)))))
def WG:AzH KAc (List Int)
 |0,_=>none
 |m+1,s=>yj YI (WG m) s
def yh:Aq1:=MA5 YI (WG AY)
def XBc:Awe:=fy u1 yh U9 U9 [DBH] Tryz.func377 WBc yj MA5 WG
inductive NAc where
 |c0 (a b d:Int) (e f g:(List Int))
def YBc:NAc->Avy
 |.c0 a b d e f g=>(tdo Tryz.f378 1000,[vp 1 64,vp 2 128,vp 3 192,vi 4 a,vi 5 b,vi 13 d],[(64,.ar 274 e),(128,.ar 274 f),(192,.ar 274 g)])
def NA5 (b:FX) (k:Aw7 NAc (List Int)):Aq1:=fun a=>mk (cond (GL a) (cond (AwG a) (k (.c0 1 0 0 a ZI [GZ a DI,0,0,0,0,0,0,0,0,0,0,0,0,0,0,0,0,0,0,0,0,0,0,0,0])) none) none)
def OA5 (a:FX) (k:Aw7 NAc (List Int)):Aw7 NAc (List Int)
 |.c0 d b e f h c=>mk (cond (e<24) (cond (GL f) (cond (EZ (Aqd d b) f) ((a (Ld f (Aqd d b)) ((Nh (Ad ((ArO e)*(Ad (e+2))))).tmod 64)).bind fun g=>cond (GL c) (cond (EZ (Aqd b (fK d b)) c) (k (.c0 b (fK d b) (ArO e) f h (c.set (Aqq (Aqd b (fK d b))) g))) none) none) none) none) (AwM (GL c) (AwM ((Rk c h) && (GL c)) (AwM ((GL c) && true) (Ej c)))))
def ni:AzH NAc (List Int)
 |0,_=>none
 |m+1,s=>OA5 YI (ni m) s
def yt:Aq1:=NA5 YI (ni AY)
def ZBc:Awe:=fy u1 yt U9 U9 [DBH] Tryz.func378 YBc OA5 NA5 ni
inductive PAc where
 |c0 (a:Int) (b d e:(List Int))
 |c1 (f a g:Int) (b d e:(List Int))
def Aoy:PAc->Avy
 |.c0 a b d e=>(tdo Tryz.f379 232,[vp 1 64,vp 2 128,vp 3 192,vi 6 a],[(64,.ar 274 b),(128,.ar 274 d),(192,.ar 274 e)])
 |.c1 f a g b d e=>(tdo Tryz.f379 59800,[vp 1 64,vp 2 128,vp 3 192,vi 4 f,vi 6 a,vi 9 g],[(64,.ar 274 b),(128,.ar 274 d),(192,.ar 274 e)])
def PA5 (k:Aw7 PAc (List Int)):Aq1:=fun a=>mk (k (.c0 0 a ZI ZI))
def HAo (k:Aw7 PAc (List Int)):Aw7 PAc (List Int)
 |.c0 b d c a=>mk (cond (b<5) (k (.c1 b b 0 d c a)) (AwM (GL a) (AwM ((Rk a c) && (GL a)) (AwM ((GL a) && true) (Ej a)))))
 |.c1 c e b a f d=>mk (cond (b<5) (cond (GL a) (cond (EZ (Aqd b c) a) (cond (GL a) (cond (EZ ((AqG (ArO b))+(Ad (5*c))) a) (cond (GL a) (cond (EZ ((AqG (Ad (b+2)))+(Ad (5*c))) a) (cond (GL d) (cond (EZ (Aqd b c) d) (k (.c1 c e (ArO b) a f (d.set (Aqq (Aqd b c)) (Eb (Ie AqE (Ld a (Aqd b c)) (Eb (Avx AqE (Eb ((BitVec.toNat ((BitVec.ofInt AqE (ite ((IntKind.signed IntKind.u64) = true) (-Aq4) (IntKind.max IntKind.u64))) ^^^ (BitVec.ofInt AqE (Ld a ((AqG (ArO b))+(Ad (5*c)))))):Nat):Int)) (Ld a ((AqG (Ad (b+2)))+(Ad (5*c))))))))))) none) none) none) none) none) none) none) none) (k (.c0 (ArO e) a f d)))
def YJ:AzH PAc (List Int)
 |0,_=>none
 |m+1,s=>HAo (YJ m) s
def yu:Aq1:=PA5 (YJ AY)
def BBd:Awe:=fy u1 yu U9 U9 [] Tryz.func379 Aoy HAo PA5 YJ
inductive RAc where
 |c0 (a b d:Int)
def CBd:RAc->Avy
 |.c0 a b d=>(tdo Tryz.f386 232,[vi 3 a,vi 4 b,vi 5 d],[])
def EBH (k:Aw7 RAc Int):Qc:=fun a=>k (.c0 1 a 0)
def FBH (k:Aw7 RAc Int):Aw7 RAc Int
 |.c0 a c b=>mk (cond (Aqt b c) (cond ((Ad (a*(Ar6 Aq4)))>=256) (k (.c0 (Ad (TAh Lh (XAh (a*(Ar6 Aq4))))) c (ArO b))) (k (.c0 (Ad (a*(Ar6 Aq4))) c (ArO b)))) (some (Eb (Ad (VJ Lh a)))))
def QA5:AzH RAc Int
 |0,_=>none
 |m+1,s=>FBH (QA5 m) s
def RA5:Qc:=EBH (QA5 AY)
def DBd:Awe:=fy u1 RA5 FN wX [] Tryz.func386 CBd FBH EBH QA5
inductive SAc where
 |c0 (a b d:Int)
def EBd:SAc->Avy
 |.c0 a b d=>(tdo Tryz.f380 232,[vi 0 a,(3,[.one (.int .u64 b)]),vi 5 d],[])
def GBH (b:Qc) (k:Aw7 SAc Int):Qc:=fun a=>k (.c0 a 0 0)
def HBH (a:Qc) (k:Aw7 SAc Int):Aw7 SAc Int
 |.c0 d e b=>mk (cond (b<7) ((a (Fb b (Ad (7*d)))).bind fun c=>cond (KD b) (cond (KD (Eb ((Eb (1*(MV (BN b) AqE))) - 1))) (k (.c0 d (Eb (ZG AqE e (Eb (c*(MV (BN (Eb ((Eb (1*(MV (BN b) AqE))) - 1))) AqE))))) (ArO b))) none) none) (some e))
def SA5:AzH SAc Int
 |0,_=>none
 |m+1,s=>HBH RA5 (SA5 m) s
def IAo:Qc:=GBH RA5 (SA5 AY)
def FBd:Awe:=fy u1 IAo FN wX [DBd] Tryz.func380 EBd HBH GBH SA5
inductive TAc where
 |c0 (a:Int) (b d:(List Int))
def GBd:TAc->Avy
 |.c0 a b d=>(tdo Tryz.f364 104,[vp 1 64,vp 2 128,vi 4 a],[(64,.ar 274 b),(128,.ar 274 d)])
def TA5 (b c d:Aq1) (e:Qc) (k:Aw7 TAc (List Int)):Aq1:=fun a=>mk (k (.c0 0 a ZI))
def UA5 (a b c:Aq1) (d:Qc) (k:Aw7 TAc (List Int)):Aw7 TAc (List Int)
 |.c0 g f l=>mk (cond (g<24) (cond (GL f) ((a f).bind fun h=>(b h).bind fun i=>(c i).bind fun e=>cond ((Rk e f) && (GL e)) (cond (GL e) (cond (AwG e) ((d g).bind fun j=>cond (GL e) (cond (AwG e) (k (.c0 (ArO g) (e.set (BN DI) (Eb (Ie AqE (GZ e DI) j))) l)) none) none) none) none) none) none) (AwM (GL f) (AwM ((Rk f l) && (GL f)) (AwM ((GL f) && true) (Ej f)))))
def yw:AzH TAc (List Int)
 |0,_=>none
 |m+1,s=>UA5 yh yt yu IAo (yw m) s
def JAo:Aq1:=TA5 yh yt yu IAo (yw AY)
def HBd:Awe:=fy u1 JAo U9 U9 [XBc,ZBc,BBd,FBd] Tryz.func364 GBd UA5 TA5 yw
inductive VAc where
 |c0 (a b:Int) (d e:(List Int))
def IBd:VAc->Avy
 |.c0 a b d e=>(tdo Tryz.f366 232,[vp 1 64,vo 3 240,vi 7 a,vi 8 b],[(64,.ar 274 d),(240,.sl 5 e)])
def VA5 (k:Aw7 VAc AA):Ic:=fun a=>mk (k (.c0 (AsC (Arv (200:Int))) 0 a (Arv (200:Int))))
def WA5 (k:Aw7 VAc AA):Aw7 VAc AA
 |.c0 d a b c=>mk (cond (Aqt a d) (cond (GL b) (cond (EZ (Awf a) b) (cond (KD (Ad (8*(a.tmod 8)))) (cond (Dt a c) (k (.c0 d (ArO a) b (c.set (BN a) (w8 (OG (Ld b (Awf a)) (MV (Aqq (8*(a.tmod 8))) AqE)))))) none) none) none) none) (AsF c))
def ny:AzH VAc AA
 |0,_=>none
 |m+1,s=>WA5 (ny m) s
def KAo:Ic:=VA5 (ny AY)
def JBd:Awe:=fy u1 KAo U9 Cc [] Tryz.func366 IBd WA5 VA5 ny
def XA5 (d:Hw) (e:Aq1) (f:Ic):CG:=fun a=>mk (cond ((TT a) != 200) (some a) ((d a).bind fun b=>(e b).bind fun c=>Ap2 (f c)))
def cu:CG:=XA5 GAo JAo KAo
def IBH:Awe:=BI u1 cu Cc Cc [VBc,HBd,JBd] Tryz.func339 XA5
inductive WAc where
 |c0 (a:Int) (b:(List Int))
 |c1 (a d:Int) (b e:(List Int))
 |c2 (a d:Int) (f g:Int) (b e:(List Int))
def KBd:WAc->Avy
 |.c0 a b=>(tdo Tryz.f338 224,[vi 1 a,vo 7 496],[(496,.sl 5 b)])
 |.c1 a d b e=>(tdo Tryz.f338 4048,[vi 1 a,vo 7 496,vo 8 560,vi 9 d],[(496,.sl 5 b),(560,.sl 5 e)])
 |.c2 a d f g b e=>(tdo Tryz.f338 259208,[vi 1 a,vo 7 496,vo 8 560,vi 9 d,vi 40 f,vi 41 g],[(496,.sl 5 b),(560,.sl 5 e)])
def YA5 (d:CG) (k:Aw7 WAc AA):qh:=fun a b c=>mk (cond (ArS a) (cond (Na (Pm a)) (k (.c0 b ((Pm a)++[c]))) none) none)
def YK (a:CG) (k:Aw7 WAc AA):Aw7 WAc AA
 |.c0 c b=>mk (cond (!(Aq6 c)) (cond (((AsC b).tmod c) != 0) (cond (Na b) (k (.c0 c (b++[DI]))) none) (cond (EZ ((AsC b) - 1) b) (cond (EZ ((AsC b) - 1) b) (k (.c1 c 0 (CAu b) (Arv (200:Int)))) none) none)) none)
 |.c1 d b c e=>mk (cond (Aqt b (AsC c)) (k (.c2 d b d 0 c e)) (AsF e))
 |.c2 f d h b e c=>mk (cond (Aqt b h) (cond (Dt b c) (cond (EZ (d+b) e) (cond (Dt b c) (k (.c2 f d h (ArO b) e (c.set (BN b) (w8 (Ie AqS (GZ c b) (Ld e (d+b))))))) none) none) none) ((a (ofBytes c)).bind fun g=>cond (ArS g) (k (.c1 f (Fb d f) e (Pm g))) none))
def Oi:AzH WAc AA
 |0,_=>none
 |m+1,s=>YK cu (Oi m) s
def yx:qh:=YA5 cu (Oi AY)
def LBd:Awe:=fy u3 yx AVd Cc [IBH] Tryz.func338 KBd YK YA5 Oi
def ZA5 (b:qh):AqM:=fun c=>(b c 168 31).bind fun a=>some ⟨a,0⟩
def oC:AqM:=ZA5 yx
def JBH:Awe:=BI u1 oC Cc AVe [LBd] Tryz.func303 ZA5
inductive YAc where
 |c0 (a:Int) (b:AA) (d e:F6)
def MBd:YAc->Avy
 |.c0 d e a b=>(tdo Tryz.f304 480,[vi 1 d,vp 2 128,vp 4 256,vs 6 e],[(128,.var [.str a.F7,li a.ER]),(256,.var [.str b.F7,li b.ER])])
def AIh (c:AqW) (f:CG) (k:Aw7 YAc (F6×AA)):Avb:=fun a d=>mk ((c d 0 4000).bind fun b=>cond (!b) (some (a,IK)) (cond ((TT a.F7) != 200) (some (a,IK)) ((c a.ER 0 168).bind fun e=>cond (!e) (some (a,IK)) (k (.c0 d IK a ⟨IK,0⟩)))))
def BA6 (a:AqW) (b:CG) (k:Aw7 YAc (F6×AA)):Aw7 YAc (F6×AA)
 |.c0 e c d g=>mk (cond (Aqt (TT c) e) (cond (d.ER == 168) ((b d.F7).bind fun f=>cond (((decide (DI<=DI)) && (KD (Ad (0+(ite (MW<(Ls e c)) MW (Ls e c)))))) && (Avv (Ad (0+(ite (MW<(Ls e c)) MW (Ls e c)))) (TT f))) (cond (KZ c (JE f DI (0+(ite (MW<(Ls e c)) MW (Ls e c))))) (k (.c0 e (c++(JE f DI (0+(ite (MW<(Ls e c)) MW (Ls e c))))) ⟨f,Ad (0+(ite (MW<(Ls e c)) MW (Ls e c)))⟩ g)) none) none) (cond (Ll d.ER (Ad (d.ER+(ite ((AqZ d)<(Ls e c)) (AqZ d) (Ls e c)))) (TT d.F7)) (cond (KZ c (JE d.F7 d.ER (d.ER+(ite ((AqZ d)<(Ls e c)) (AqZ d) (Ls e c))))) (k (.c0 e (c++(JE d.F7 d.ER (d.ER+(ite ((AqZ d)<(Ls e c)) (AqZ d) (Ls e c))))) ⟨d.F7,Ad (d.ER+(ite ((AqZ d)<(Ls e c)) (AqZ d) (Ls e c)))⟩ g)) none) none)) (some (d,c)))
def fZ:AzH YAc (F6×AA)
 |0,_=>none
 |m+1,s=>BA6 Fv cu (fZ m) s
def ZN:Avb:=AIh Fv cu (fZ AY)
def KBH:Awe:=fy u2 ZN AVf AVg [Aqs,IBH] Tryz.func304 MBd BA6 AIh fZ
def CA6 (e:AqW) (f:AqM) (h:Avb):Y6:=fun g b=>mk ((e b 0 4000).bind fun a=>cond (!a) (Ar2 (IK,false)) ((f g).bind fun c=>(h c b).bind fun d=>Ar2 (d.2,true)))
def gB:Y6:=CA6 Fv oC ZN
def NBd:Awe:=BI u2 gB Q9 IQ [Aqs,JBH,KBH] Tryz.func302 CA6
def DA6:Qc:=fun a=>mk (some (ZE ((a.tmod 3329)+3329)))
def P8:Qc:=DA6
def ZAc:Awe:=BI u1 P8 FN FN [] Tryz.func301 DA6
inductive ACe where
 |c0 (a:AA) (b d:Int) (e:(List Int))
def OBd:ACe->Avy
 |.c0 a b d e=>(tdo Tryz.f264 488,[vs 5 a,vo 7 496,vi 20 b,vi 21 d],[(496,.sl 3 e)])
def EA6 (d:Bl) (f:Y6) (g:Qc) (k:Aw7 ACe (List Int)):AsG:=fun b e=>mk ((d e).bind fun a=>cond (KZ b a) ((f (b++a) 128).bind fun c=>k (.c0 c.1 (AsC Wy) 0 Wy)) none)
def FA6 (a:Bl) (b:Y6) (c:Qc) (k:Aw7 ACe (List Int)):Aw7 ACe (List Int)
 |.c0 e g d f=>mk (cond (Aqt d g) (cond (AwE (Nh d) (TT e)) (cond (KD (Ad (4*(d.tmod 2)))) ((c (AwZ (AwZ (NY (VJ Lh (KAU e d)) (VJ Lh (OG (KAU e d) (Ar6 Aq4)))) (Ad (VJ Lh (OG (KAU e d) (Ar6 (2:Int)))))) (Ad (VJ Lh (OG (KAU e d) (Ar6 (3:Int))))))).bind fun h=>cond (Dt d f) (k (.c0 e g (ArO d) (f.set (BN d) h))) none) none) none) (Ej f))
def gG:AzH ACe (List Int)
 |0,_=>none
 |m+1,s=>FA6 Ar3 gB P8 (gG m) s
def rV:AsG:=EA6 Ar3 gB P8 (gG AY)
def PBd:Awe:=fy u2 rV Q9 JZ [VT,NBd,ZAc] Tryz.func264 OBd FA6 EA6 gG
inductive CAd where
 |c0 (a:AA) (b d:Int) (e:(List (List Int)))
def QBd:CAd->Avy
 |.c0 a b d e=>(tdo Tryz.f230 232,[vs 0 a,vi 1 b,vo 5 368,vi 7 d],[(368,.sl 37 e)])
def GA6 (c:AsG) (k:Aw7 CAd (List (List Int))):KAh:=fun a b=>k (.c0 a b 0 [])
def LAo (a:AsG) (k:Aw7 CAd (List (List Int))):Aw7 CAd (List (List Int))
 |.c0 e f b c=>mk (cond (Aqn b) ((a e (Fb f b)).bind fun d=>cond (Wi c) (k (.c0 e f (ArO b) (c++[d]))) none) (some c))
def rX:AzH CAd (List (List Int))
 |0,_=>none
 |m+1,s=>LAo rV (rX m) s
def ZR:KAh:=GA6 rV (rX AY)
def RBd:Awe:=fy u2 ZR Q9 AEd [PBd] Tryz.func230 QBd LAo GA6 rX
inductive EAd where
 |c0 (a b:(List Int)) (d e:Int)
def SBd:EAd->Avy
 |.c0 a b d e=>(tdo Tryz.f265 104,[vr 0 3 a,vr 5 3 b,vi 6 d,vi 7 e],[])
def HA6 (b:AqW) (k:Aw7 EAd Bool):MR:=fun a=>mk (k (.c0 a a (AsC a) 0))
def MAo (a:AqW) (k:Aw7 EAd Bool):Aw7 EAd Bool
 |.c0 f c d b=>mk (cond (Aqt b d) (cond (Dt b c) ((a (GZ c b) 0 3328).bind fun e=>cond (!e) (some false) (k (.c0 f c d (ArO b)))) none) (some ((AsC f) == 256)))
def gJ:AzH EAd Bool
 |0,_=>none
 |m+1,s=>MAo Fv (gJ m) s
def Aq9:MR:=HA6 Fv (gJ AY)
def NAo:Awe:=fy u1 Aq9 Wn E8 [Aqs] Tryz.func265 SBd MAo HA6 gJ
def IA6:Aq1:=fun a=>mk (AwM (Av2 (a.length*8)) (Ej a))
def rY:Aq1:=IA6
def TBd:Awe:=BI u1 rY Wn JZ [] Tryz.func298 IA6
inductive GAd where
 |c0 (a b d:Int)
def UBd:GAd->Avy
 |.c0 a b d=>(tdo Tryz.f300 232,[vi 0 a,vi 3 b,vi 5 d],[])
def JA6 (k:Aw7 GAd Int):Qc:=fun a=>k (.c0 a 0 0)
def KA6 (k:Aw7 GAd Int):Aw7 GAd Int
 |.c0 b c a=>mk (cond (a<7) (cond (KD a) (k (.c0 b (NY (2*c) (VJ Lh (OG b (Ar6 a)))) (ArO a))) none) (some c))
def rZ:AzH GAd Int
 |0,_=>none
 |m+1,s=>KA6 (rZ m) s
def ZT:Qc:=JA6 (rZ AY)
def LBH:Awe:=fy u1 ZT FN FN [] Tryz.func300 UBd KA6 JA6 rZ
inductive IAd where
 |c0 (a b d:Int)
def VBd:IAd->Avy
 |.c0 a b d=>(tdo Tryz.f299 992,[vi 0 a,vi 1 b,vi 5 d],[])
def LA6 (d:AqW) (e:Qc) (k:Aw7 IAd Int):FX:=fun f b=>(d b 0 1000000000).bind fun a=>cond (!a) (some 0) ((e f).bind fun c=>k (.c0 c b 1))
def MA6 (a:AqW) (b:Qc) (k:Aw7 IAd Int):Aw7 IAd Int
 |.c0 c d e=>mk (cond (Avi d) (cond (OI d) (k (.c0 (ZE (c*c)) (Nh d) (fB e c))) (k (.c0 (ZE (c*c)) (Nh d) e))) (some e))
def ru:AzH IAd Int
 |0,_=>none
 |m+1,s=>MA6 Fv P8 (ru m) s
def ZU:FX:=LA6 Fv P8 (ru AY)
def MBH:Awe:=fy u2 ZU wP FN [Aqs,ZAc] Tryz.func299 VBd MA6 LA6 ru
inductive KAd where
 |c0 (a b:Int) (d:(List Int))
 |c1 (a b e:Int) (d:(List Int))
 |c2 (a b:Int) (e f g:Int) (d:(List Int))
def WBd:KAd->Avy
 |.c0 a b d=>(tdo Tryz.f263 2000,[vo 3 240,vi 4 a,vi 5 b],[(240,.sl 3 d)])
 |.c1 a b e d=>(tdo Tryz.f263 128144,[vo 3 240,vi 4 a,vi 5 b,vi 6 e],[(240,.sl 3 d)])
 |.c2 a b e f g d=>(tdo Tryz.f263 32805488,[vo 3 240,vi 4 a,vi 5 b,vi 6 e,vi 7 f,vi 8 g],[(240,.sl 3 d)])
def NA6 (d:MR) (e:Aq1) (f:Qc) (g:FX) (h:Qc) (k:Aw7 KAd (List Int)):Aq1:=fun b=>mk ((d b).bind fun a=>cond (!a) (Ej []) ((e b).bind fun c=>k (.c0 1 128 c)))
def ZX (a:MR) (b:Aq1) (c:Qc) (d:FX) (e:Qc) (k:Aw7 KAd (List Int)):Aw7 KAd (List Int)
 |.c0 h f g=>mk (cond (f>=2) (k (.c1 h f 0 g)) (Ej g))
 |.c1 g j f l=>mk (cond (Ar1 f) ((c g).bind fun h=>(d 17 h).bind fun i=>k (.c2 (ArO g) j f i f l)) (k (.c0 g (Nh j) l)))
 |.c2 n h i l f g=>mk (cond (Aqt f (Fb i h)) (cond (EZ (f+h) g) (cond (Dt f g) ((e (Fb (GZ g f) (Ad (l*(Ld g (f+h)))))).bind fun j=>cond (Dt f g) ((e (AwZ (GZ g f) (Ad (l*(Ld g (f+h)))))).bind fun m=>cond (Dt f g) (cond (EZ (f+h) (g.set (BN f) j)) (k (.c2 n h i l (ArO f) ((g.set (BN f) j).set (Aqq (f+h)) m))) none) none) none) none) none) (k (.c1 n h (Fb i (Ad (2*h))) g)))
def O6:AzH KAd (List Int)
 |0,_=>none
 |m+1,s=>ZX Aq9 rY ZT ZU P8 (O6 m) s
def ZW:Aq1:=NA6 Aq9 rY ZT ZU P8 (O6 AY)
def NBH:Awe:=fy u1 ZW Wn JZ [NAo,TBd,LBH,MBH,ZAc] Tryz.func263 WBd ZX NA6 O6
inductive LAd where
 |c0 (a:(List (List Int))) (b d:Int) (e:(List (List Int)))
def XBd:LAd->Avy
 |.c0 a b d e=>(tdo Tryz.f229 232,[vo 3 240,vr 6 37 a,vi 7 b,vi 8 d],[(240,.sl 37 e)])
def OA6 (b:Aq1) (k:Aw7 LAd (List (List Int))):LAh:=fun a=>k (.c0 a (a.length:Int) 0 [])
def PA6 (a:Aq1) (k:Aw7 LAd (List (List Int))):Aw7 LAd (List (List Int))
 |.c0 c e b d=>mk (cond (Aqt b e) (cond (AwI b c.length) ((a (c.getD (BN b) [])).bind fun f=>cond (Wi d) (k (.c0 c e (ArO b) (d++[f]))) none) none) (some d))
def OAo:AzH LAd (List (List Int))
 |0,_=>none
 |m+1,s=>PA6 ZW (OAo m) s
def ZY:LAh:=OA6 ZW (OAo AY)
def YBd:Awe:=fy u1 ZY Ae6 AEd [NBH] Tryz.func229 XBd PA6 OA6 OAo
inductive MAd where
 |c0 (a b:Int) (d:F6) (e:(List Int))
 |c1 (a b:Int) (f g:Int) (d:F6) (e h:(List Int))
def ZBd:MAd->Avy
 |.c0 b d a e=>(tdo Tryz.f270 2000,[vp 7 448,vo 8 560,vi 9 b,vi 10 d],[(448,.var [.str a.F7,li a.ER]),(560,.sl 3 e)])
 |.c1 b d f g a e h=>(tdo Tryz.f270 512632,[vp 7 448,vo 8 560,vi 9 b,vi 10 d,vo 60 3888,vi 61 f,vi 62 g],[(448,.var [.str a.F7,li a.ER]),(560,.sl 3 e),(3888,.sl 3 h)])
def QA6 (d:Bl) (h:AqM) (i:Avb) (k:Aw7 MAd (List Int)):Y5:=fun b f g=>mk ((d f).bind fun a=>cond (KZ b a) ((d g).bind fun c=>cond (Gx b a c) ((h ((b++a)++c)).bind fun e=>k (.c0 0 0 e Wy)) none) none)
def gU (a:Bl) (b:AqM) (c:Avb) (k:Aw7 MAd (List Int)):Aw7 MAd (List Int)
 |.c0 g f h e=>mk (cond (f<4000) (cond (Ar1 g) ((c h 3).bind fun d=>cond (RI DI (TT d.2)) (cond (SAU (TT d.2)) (cond (OAU (TT d.2)) (k (.c1 g f ((2:Nat):Int) 0 d.1 e [NY (bt d.2 0) (((Ad (bt d.2 1)).tmod 16)*256),NY ((Ad (bt d.2 1)).tdiv 16) (16*(Ad (bt d.2 2)))])) none) none) none) (Ej e)) (Ej e))
 |.c1 e i h d j g f=>mk (cond (Aqt d h) (cond (Dt d f) (cond (ZK (GZ f d)) (cond (Ar1 e) (cond (Dt e g) (k (.c1 (ArO e) i h (ArO d) j (g.set (BN e) (GZ f d)) f)) none) (k (.c1 e i h (ArO d) j g f))) (k (.c1 e i h (ArO d) j g f))) none) (k (.c0 e (ArO i) j g)))
def Qv:AzH MAd (List Int)
 |0,_=>none
 |m+1,s=>gU Ar3 oC ZN (Qv m) s
def Za:Y5:=QA6 Ar3 oC ZN (Qv AY)
def ApO:Awe:=fy u3 Za wR JZ [VT,JBH,KBH] Tryz.func270 ZBd gU QA6 Qv
inductive NAd where
 |c0 (a:AA) (b:Int) (d:Bool) (e:Int) (f:(List (List Int)))
def BBe:NAd->Avy
 |.c0 a b d e f=>(tdo Tryz.f234 232,[vs 0 a,vi 1 b,vb 2 d,vo 7 496,vi 9 e],[(496,.sl 37 f)])
def RA6 (d:Y5) (k:Aw7 NAd (List (List Int))):MAh:=fun a b c=>k (.c0 a b c 0 [])
def SA6 (a:Y5) (k:Aw7 NAd (List (List Int))):Aw7 NAd (List (List Int))
 |.c0 d e f b c=>mk (cond (Aqn b) (cond f ((a d e b).bind fun g=>cond (Wi c) (k (.c0 d e f (ArO b) (c++[g]))) none) ((a d b e).bind fun h=>cond (Wi c) (k (.c0 d e f (ArO b) (c++[h]))) none)) (some c))
def PAo:AzH NAd (List (List Int))
 |0,_=>none
 |m+1,s=>SA6 Za (PAo m) s
def Zc:MAh:=RA6 Za (PAo AY)
def CBe:Awe:=fy u3 Zc AU3 AEd [ApO] Tryz.func234 BBe SA6 RA6 PAo
inductive OAd where
 |c0 (a b:(List Int)) (d:Int) (e:(List Int))
def DBe:OAd->Avy
 |.c0 a b d e=>(tdo Tryz.f269 488,[vr 0 3 a,vr 1 3 b,vo 5 368,vi 21 d],[(368,.sl 3 e)])
def TA6 (b:MR) (f:Qc) (g:FX) (h:Qc) (k:Aw7 OAd (List Int)):Aq5:=fun c e=>mk ((b c).bind fun a=>cond (!a) (Ej []) ((b e).bind fun d=>cond (!d) (Ej []) (k (.c0 c e 0 Wy))))
def UA6 (a:MR) (b:Qc) (c:FX) (d:Qc) (k:Aw7 OAd (List Int)):Aw7 OAd (List Int)
 |.c0 f g e h=>mk (cond (e<128) ((b e).bind fun j=>(c 17 (AwU j)).bind fun l=>cond (EZ (2*e) f) (cond (AwE (AwU e) (AsC f)) (cond (EZ (2*e) g) (cond (AwE (AwU e) (AsC g)) ((d (NY ((Ld f (2*e))*(Ld g (2*e))) ((fB (GZ f (AwU e)) (GZ g (AwU e)))*l))).bind fun i=>cond (EZ (2*e) h) ((d (NY ((Ld f (2*e))*(GZ g (AwU e))) ((GZ f (AwU e))*(Ld g (2*e))))).bind fun m=>cond (AwE (AwU e) (AsC (h.set (Aqq (2*e)) i))) (k (.c0 f g (ArO e) ((h.set (Aqq (2*e)) i).set (BN (AwU e)) m))) none) none) none) none) none) none) (Ej h))
def gV:AzH OAd (List Int)
 |0,_=>none
 |m+1,s=>UA6 Aq9 ZT ZU P8 (gV m) s
def sD:Aq5:=TA6 Aq9 ZT ZU P8 (gV AY)
def EBe:Awe:=fy u2 sD bK JZ [NAo,LBH,MBH,ZAc] Tryz.func269 DBe UA6 TA6 gV
def VA6:FX:=fun a b=>mk (some (Fb a b))
def QAo:FX:=VA6
def FBe:Awe:=BI u2 QAo wP FN [] Tryz.func268 VA6
def OBH:FX:=fun a b=>mk (some (AwZ a b))
def WA6:FX:=OBH
def GBe:Awe:=BI u2 WA6 wP FN [] Tryz.func342 OBH
inductive QAd where
 |c0 (a b:(List Int)) (d:Nat) (e f:Int) (g:(List Int))
def HBe:QAd->Avy
 |.c0 a b d e f g=>(tdo Tryz.f267 488,[vr 0 3 a,vr 1 3 b,(2,[.one (.fn d)]),vo 7 496,vi 19 e,vi 20 f],[(496,.sl 3 g)])
def XA6 (b:MR) (g h:FX) (i:Qc) (k:Aw7 QAd (List Int)):SAt:=fun c e f=>mk ((b c).bind fun a=>cond (!a) (Ej []) ((b e).bind fun d=>cond (!d) (Ej []) (k (.c0 c e f (AsC Wy) 0 Wy))))
def RAo (a:MR) (b c:FX) (d:Qc) (k:Aw7 QAd (List Int)):Aw7 QAd (List Int)
 |.c0 g h f j e i=>mk (cond (Aqt e j) (cond (Dt e g) (cond (Dt e h) (cond (Nat.beq f 268) ((b (GZ g e) (GZ h e)).bind fun l=>(d l).bind fun m=>cond (Dt e i) (k (.c0 g h f j (ArO e) (i.set (BN e) m))) none) (cond (Nat.beq f 342) ((c (GZ g e) (GZ h e)).bind fun n=>(d n).bind fun o=>cond (Dt e i) (k (.c0 g h f j (ArO e) (i.set (BN e) o))) none) (cond (Nat.beq f 362) none (cond (Nat.beq f 363) none none)))) none) none) (Ej i))
def gW:AzH QAd (List Int)
 |0,_=>none
 |m+1,s=>RAo Aq9 QAo WA6 P8 (gW m) s
def SAo:SAt:=XA6 Aq9 QAo WA6 P8 (gW AY)
def IBe:Awe:=fy u3 SAo Ae7 JZ [NAo,FBe,GBe,ZAc] Tryz.func267 HBe RAo XA6 gW
def YA6 (b:SAt):Aq5:=fun c d=>mk ((b c d 268).bind fun a=>Ej a)
def Ari:Aq5:=YA6 SAo
def PBH:Awe:=BI u2 Ari bK JZ [IBe] Tryz.func232 YA6
inductive RAd where
 |c0 (a:(List (List Int))) (b:(List (List Int))) (d e:Int) (f:(List Int))
def JBe:RAd->Avy
 |.c0 a b d e f=>(tdo Tryz.f233 232,[vr 0 37 a,vr 1 37 b,vo 5 368,vi 9 d,vi 10 e],[(368,.sl 3 f)])
def ZA6 (c d:Aq5) (k:Aw7 RAd (List Int)):Ri:=fun a b=>mk (k (.c0 a b (a.length:Int) 0 Wy))
def TAo (a b:Aq5) (k:Aw7 RAd (List Int)):Aw7 RAd (List Int)
 |.c0 d e f c i=>mk (cond (Aqt c f) (cond (AwI c d.length) (cond (AwI c e.length) ((a (d.getD (BN c) []) (e.getD (BN c) [])).bind fun g=>(b i g).bind fun h=>k (.c0 d e f (ArO c) h)) none) none) (Ej i))
def gX:AzH RAd (List Int)
 |0,_=>none
 |m+1,s=>TAo sD Ari (gX m) s
def XY:Ri:=ZA6 sD Ari (gX AY)
def QBH:Awe:=fy u2 XY AUj JZ [EBe,PBH] Tryz.func233 JBe TAo ZA6 gX
inductive SAd where
 |c0 (a:Int) (b:(List Int)) (d e:Int) (f:(List Int))
 |c1 (a g h:Int) (b:(List Int)) (d e:Int) (i j:Int) (f:(List Int))
def KBe:SAd->Avy
 |.c0 a b d e f=>(tdo Tryz.f266 232,[vi 1 a,vo 5 368,vr 17 3 b,vi 18 d,vi 19 e],[(368,.sl 5 f)])
 |.c1 a g h b d e i j f=>(tdo Tryz.f266 59800,[vi 1 a,vo 5 368,vi 6 g,vi 7 h,vr 17 3 b,vi 18 d,vi 19 e,vi 24 i,vi 25 j],[(368,.sl 5 f)])
def AJA (k:Aw7 SAd AA):qm:=fun a b=>mk (cond ((UAh (Ad (Awf (Ad ((Ad ((AsC a)*b))+7))))) && (Av2 ((Aqq (Awf (Ad ((Ad ((AsC a)*b))+7))))*1))) (k (.c0 b a (AsC a) 0 (List.replicate (Aqq (Awf (Ad ((Ad ((AsC a)*b))+7)))) DI))) none)
def UAo (k:Aw7 SAd AA):Aw7 SAd AA
 |.c0 d b c a e=>mk (cond (Aqt a c) (cond (Dt a b) (k (.c1 d a (GZ b a) b c a d 0 e)) none) (AsF e))
 |.c1 b c f g h i e a d=>mk (cond (Aqt a e) (cond (EZ (Awf (Fb (Ad (c*b)) a)) d) (cond (KD a) (cond (KD ((Fb (Ad (c*b)) a).tmod 8)) (cond (EZ (Awf (Fb (Ad (c*b)) a)) d) (k (.c1 b c f g h i e (ArO a) (d.set (Aqq (Awf (Fb (Ad (c*b)) a))) (w8 (ZG AqS (Ld d (Awf (Fb (Ad (c*b)) a))) (w8 ((w8 (Ad (VJ Lh (OG f (Ar6 a)))))*(MV (BN ((Fb (Ad (c*b)) a).tmod 8)) AqS)))))))) none) none) none) none) (k (.c0 b g h (ArO i) d)))
def XZ:AzH SAd AA
 |0,_=>none
 |m+1,s=>UAo (XZ m) s
def sF:qm:=AJA (XZ AY)
def RBH:Awe:=fy u2 sF wQ Cc [] Tryz.func266 KBe UAo AJA XZ
def BA7 (c:MR) (d:qm):Ic:=fun b=>mk ((c b).bind fun a=>cond (!a) Rl (Ap2 (d b 12)))
def Ze:Ic:=BA7 Aq9 sF
def LBe:Awe:=BI u1 Ze Wn Cc [NAo,RBH] Tryz.func231 BA7
inductive UAd where
 |c0 (a b:AA) (d e:AA) (f:Int) (g:Ky) (h:(List (List Int))) (i:(List (List Int)))
def MBe:UAd->Avy
 |.c0 b d e f g a h i=>(tdo Tryz.f170 4072,[vp 2 128,vs 4 b,vs 5 d,vo 7 496,vo 8 560,vs 9 e,vs 10 f,vi 30 g],[(128,.var [.str a.bH,.str a.bI]),(496,.sl 37 h),(560,.sl 37 i)])
def CA7 (b:CG) (g:KAh) (i:LAh) (m:MAh) (n:Ri) (o:Aq5) (p:Ic) (k:Aw7 UAd (Ky×Bool)):Y7:=fun d=>mk (cond ((TT d) != 32) (some (⟨IK,IK⟩,false)) ((b d).bind fun a=>cond (KZ a (Ap1 ⟨#[114]⟩)) ((b (a++(Ap1 ⟨#[114]⟩))).bind fun e=>cond (KZ a (Ap1 ⟨#[115]⟩)) ((b (a++(Ap1 ⟨#[115]⟩))).bind fun c=>(g c 0).bind fun f=>(i f).bind fun h=>(g c 2).bind fun j=>(i j).bind fun l=>k (.c0 a e IK IK 0 ⟨IK,IK⟩ h l)) none) none))
def sH (a:CG) (b:KAh) (c:LAh) (d:MAh) (e:Ri) (f:Aq5) (g:Ic) (k:Aw7 UAd (Ky×Bool)):Aw7 UAd (Ky×Bool)
 |.c0 r h i l j w m o=>mk (cond (Aqn j) ((d h j false).bind fun t=>(e t m).bind fun u=>cond (AwI j o.length) ((f u (o.getD (BN j) [])).bind fun v=>(g v).bind fun p=>cond (KZ i p) (cond (AwI j m.length) ((g (m.getD (BN j) [])).bind fun q=>cond (KZ l q) (k (.c0 r h (i++p) (l++q) (ArO j) w m o)) none) none) none) none) (cond (KZ i h) (cond (KZ l (i++h)) ((a (i++h)).bind fun n=>cond (Gx l (i++h) n) (cond (KZ r (Ap1 ⟨#[122]⟩)) ((a (r++(Ap1 ⟨#[122]⟩))).bind fun s=>cond (Gx (l++(i++h)) n s) (some (⟨i++h,((l++(i++h))++n)++s⟩,true)) none) none) none) none) none))
def gZ:AzH UAd (Ky×Bool)
 |0,_=>none
 |m+1,s=>sH Ap8 ZR ZY Zc XY Ari Ze (gZ m) s
def sG:Y7:=CA7 Ap8 ZR ZY Zc XY Ari Ze (gZ AY)
def SBH:Awe:=fy u1 sG Cc AUk [RJ,RBd,YBd,CBe,QBH,PBH,LBe] Tryz.func170 MBe sH CA7 gZ
def DA7:qj:=fun _=>none
def NBe:Awe:=fs u1 DA7 Cc AUl 305
def EA7:TAt:=fun _ _ _=>none
def OBe:Awe:=fs u3 EA7 wR AKk 306
def FA7:eY:=fun _ _=>none
def PBe:Awe:=fs u2 FA7 wQ JZ 307
def GA7:Aq1:=fun _=>none
def QBe:Awe:=fs u1 GA7 Wn JZ 309
def HA7:Aq5:=fun _ _=>none
def RBe:Awe:=fs u2 HA7 bK JZ 308
inductive XAd where
 |c0 (a:AA) (b:Int) (d:(List (List Int))) (e:(List (List Int)))
def SBe:XAd->Avy
 |.c0 a b d e=>(tdo Tryz.f271 2024,[vs 1 a,vo 6 432,vo 8 560,vi 29 b],[(432,.sl 37 d),(560,.sl 37 e)])
def IA7 (d:qj) (e:TAt) (f:eY) (g:Aq1) (h:Ri) (i:Aq1) (j:Aq5) (k:Aw7 XAd (List Int×Bool)):ql:=fun b c=>mk (cond ((TT b) != 1632) (some ([],false)) (cond ((TT c) != 768) (some ([],false)) ((d b).bind fun a=>cond (!a.2) (some ([],false)) (k (.c0 c 0 a.1 [])))))
def TBH (a:qj) (b:TAt) (c:eY) (d:Aq1) (e:Ri) (f:Aq1) (g:Aq5) (k:Aw7 XAd (List Int×Bool)):Aw7 XAd (List Int×Bool)
 |.c0 i h o j=>mk (cond (Aqn h) (cond (Ll (Ad (h*320)) (Ad ((ArO h)*320)) (TT i)) ((b (U0 i (h*320) ((ArO h)*320)) 10 256).bind fun l=>(c l.1 10).bind fun m=>(d m).bind fun n=>cond (Wi j) (k (.c0 i (ArO h) o (j++[n]))) none) none) (cond ((Avv DI (640:Int)) && (decide (640<=(TT i)))) ((b (AwX i (640:Int)) 4 256).bind fun p=>(c p.1 4).bind fun q=>(e o j).bind fun r=>(f r).bind fun s=>(g q s).bind fun t=>some (t,true)) none))
def JA7:AzH XAd (List Int×Bool)
 |0,_=>none
 |m+1,s=>TBH DA7 EA7 FA7 ZW XY GA7 HA7 (JA7 m) s
def KA7:ql:=IA7 DA7 EA7 FA7 ZW XY GA7 HA7 (JA7 AY)
def TBe:Awe:=fy u2 KA7 KJ AKk [NBe,OBe,PBe,NBH,QBH,QBe,RBe] Tryz.func271 SBe TBH IA7 JA7
def UBH:eY:=fun _ _=>none
def UBe:Awe:=fs u2 UBH wQ JZ 272
def LA7 (d:ql) (g:eY) (h:qm):Avk:=fun e f=>mk ((d e f).bind fun a=>cond (!a.2) (Ar2 (IK,false)) ((g a.1 1).bind fun b=>(h b 1).bind fun c=>Ar2 (c,true)))
def MA7:Avk:=LA7 KA7 UBH sF
def VBe:Awe:=BI u2 MA7 KJ IQ [TBe,UBe,RBH] Tryz.func235 LA7
def VBH:CAh:=fun _ _=>none
def WBe:Awe:=fs u2 VBH KJ AUm 236
def NA7 (h:Avk) (i:CAh) (f:CG):Avk:=fun a b=>mk ((h a b).bind fun d=>cond (!d.2) (Ar2 (IK,false)) (AqO (GAu a) ((i (a.extract (BN (768:Int)) (BN (1568:Int))) d.1).bind fun c=>cond c.2.2 (cond (Avd c.1 b) (Ar2 (c.2.1,true)) (AqO ((Avv DI (1600:Int)) && (decide (1600<=(TT a)))) (AqO (KZ (AwX a (1600:Int)) b) ((f ((AwX a (1600:Int))++b)).bind fun e=>Ar2 (e,true))))) (AqO ((Avv DI (1600:Int)) && (decide (1600<=(TT a)))) (AqO (KZ (AwX a (1600:Int)) b) ((f ((AwX a (1600:Int))++b)).bind fun g=>Ar2 (g,true)))))))
def gq:Avk:=NA7 MA7 VBH Ap8
def XBe:Awe:=BI u2 gq KJ IQ [VBe,WBe,RJ] Tryz.func171 NA7
def OA7 (e:Arl):qo:=fun a c b=>mk ((e a).bind fun d=>cond (!d) (some (⟨0,0,false,false,false,false,IK,0⟩,false)) (cond (AqD a) (cond (!c) (some (⟨0,0,false,false,false,false,IK,0⟩,false)) (cond (FK a) (cond (!b) (some (⟨0,0,false,false,false,false,IK,0⟩,false)) (some (Ars a c b,true))) (some (Ars a c b,true)))) (cond (FK a) (cond (!b) (some (⟨0,0,false,false,false,false,IK,0⟩,false)) (some (Ars a c b,true))) (some (Ars a c b,true)))))
def VAo:qo:=OA7 WR
def YBe:Awe:=BI u3 VAo AUn Yb [XAZ] Tryz.func172 OA7
def PA7 (b:CG):CG:=fun a=>mk (Arm (KZ a AsI) (Ap2 (b (a++AsI))))
def WAo:CG:=PA7 mg
def ZBe:Awe:=BI u1 WAo Cc Cc [CBH] Tryz.func237 PA7
def QA7 (d:Arl) (e:Y7) (f:CG):qp:=fun a=>mk ((d a).bind fun b=>cond (!b) Rl (cond (a.Aj == 1) ((e (Td a)).bind fun c=>some c.1.bH) (cond (a.Aj == 2) (Ap2 (f (Td a))) Rl)))
def XAo:qp:=QA7 WR sG WAo
def Apo:Awe:=BI u1 XAo S9 Cc [XAZ,SBH,ZBe] Tryz.func173 QA7
def RA7 (d:qU) (r:Rh) (s:Aqv) (t:ArW) (u:Avk) (v:Y7) (w:Avk) (c:eX) (x:qo) (y:qp):Rh:=fun i a b=>mk (cond (a.Au == 6) ((d b 1).bind fun g=>cond g (some ([],0,Td b)) (Ia (c 8))) (cond (a.Au == 5) ((d b 3).bind fun h=>cond h (Ia (r i a b)) (Ia (c 8))) (cond (a.Au == 10) ((d b 2).bind fun j=>cond j ((s b).bind fun l=>(t i).bind fun m=>(u m l.1).bind fun n=>some ([],0,n.1)) (Ia (c 8))) (cond (a.Au == 12) ((d b 4).bind fun o=>cond o ((v (Td b)).bind fun p=>(w p.1.bI a.fText).bind fun e=>cond (!e.2) (Ia (c 6)) (some ([],0,e.1))) (Ia (c 8))) (cond (a.Au == 8) ((x b a.CY a.CX).bind fun f=>cond f.2 (some ([⟨3,IK,0,f.1⟩],0,IK)) (Ia (c 8))) (cond (a.Au == 7) ((y b).bind fun q=>some ([],0,q)) (cond (a.Au == 9) (some ([⟨4,IK,b.fId,⟨0,0,false,false,false,false,IK,0⟩⟩],0,IK)) (Ia (c 8)))))))))
def YAo:Rh:=RA7 LAn EAo qA yZ FAo sG gq YB VAo XAo
def BBf:Awe:=BI u3 YAo AEp Oh [PBb,SBc,XA1,UBG,TBc,SBH,XBe,LAb,YBe,Apo] Tryz.func117 RA7
def ZAo (j:Ot) (l:XG) (c:eX) (m:Bl) (n:JC) (o:Jl) (p:CG) (q r:Jl) (s:MJ) (t:Rh):Jl:=fun b a=>mk ((j b).bind fun f=>cond (!f) (Ia (c 9)) (cond (!b.CZ) (Ia (c 9)) ((l a).bind fun g=>cond (!g) (Ia (c 9)) (cond ((Qm b)>=10000) (Ia (c 9)) (cond (a.Au == 1) (cond ((Fe b:Int)>=3) (Ia (c 1)) (cond ((Ar7 b)>=1000) (Ia (c 1)) ((m (ArO (Ar7 b))).bind fun h=>some ([],0,h)))) ((n b (ArX a)).bind fun d=>cond (Av8 d) (Ia (c 2)) (cond (a.Au == 13) (some ([],0,IK)) (cond (a.Au == 2) (Ia (o b a)) (cond (AwI d (Fe b)) (cond (!(Ap7 (Es b) d ⟨0,false⟩).QW) (Ia (c 5)) (cond (a.Au == 3) (cond ((TT a.fText) > 20) (Ia (c 6)) ((p a.fText).bind fun i=>some ([⟨1,i,0,⟨0,0,false,false,false,false,IK,0⟩⟩],0,IK))) (cond (a.Au == 4) (Ia (q b a)) (cond (a.Au == 11) (Ia (r b a)) ((s (DX b) a.Ag).bind fun e=>cond (!e.2) (Ia (c 7)) (Ia (t b a e.1))))))) none)))))))))
def Qx:Jl:=ZAo Zg yB YB Xc mP GAn Ap8 IAn KAn SH YAo
def CBf:Awe:=BI u2 Qx bM Oh [KBG,DBG,LAb,WA3,SBG,JBb,RJ,LBb,OBb,CAn,BBf] Tryz.func68 ZAo
inductive zi where
 |c0 (a:(List Int)) (b d:Int) (e f:(List BQ))
def DBf:zi->Avy
 |.c0 a b d e f=>(tdo Tryz.f174 488,[vr 1 3 a,vp 4 256,vp 6 384,vi 18 b,vi 19 d],[(256,.var [.own 1016384]),(384,.var [.own 1024576]),(1016384,.sl 90 e),(1024576,.sl 90 f)])
def SA7 (d:MH) (e:XC) (k:Aw7 zi (BU×Bool)):qH:=fun c f=>mk ((d c).bind fun b=>cond (!b) (Jb (IZ,false)) ((e c).bind fun a=>k (.c0 f (Sj a:Int) 0 [] a.Ak)))
end
end Go.Proofs.YtkbbicgglblfiaaGreatDoor.G
