/- Functions of the program, told by plain functions: part 1 of 1. -/
import Derived.Test.YtpjfloaghpgpdaaGreatDoorCtx
namespace Go.Proofs.YtpjfloaghpgpdaaGreatDoor.G
open Go Go.Ev
noncomputable section
set_option linter.unusedVariables false
set_option maxRecDepth 100000
set_option maxHeartbeats 4000000
set_option linter.unusedSectionVars false
variable [PC]
abbrev fK:=Fk ctx PP
abbrev lQ:=lJ ctx
abbrev SAG:=Unit→Option Bool
abbrev GAm:=Unit→Option SL01Cur
abbrev JAO:=SL01Cur→Option (Int×SL01Cur)
abbrev Dw:=SL01Cur→Int→Option (Int×SL01Cur)
abbrev Z8:=Int→Int→Option ByteArray
abbrev Ol:=Option (List Int)
abbrev Bh:=List Int→Option ByteArray
abbrev HAm:=Option SHasher
abbrev Ja:=Int→Int→Int→Option Bool
abbrev UAG:=SHasher→Option Bool
abbrev YAa:=ByteArray→Int→Option Int
abbrev Ag:=ByteArray→Option (List Int)
abbrev IAm:=Int→Int→Int→Option Int
abbrev ZAa:=Int→Int→Int→Int→Bool→Option Int
abbrev VAG:=List Int→List Int→ByteArray→Option (List Int)
abbrev JAm:=SHasher→ByteArray→Option SHasher
abbrev KAm:=SHasher→Option ByteArray
abbrev NZ:=ByteArray→Option ByteArray
abbrev Qs:=Option SBook
abbrev LZ:=Int→Option ByteArray
abbrev Yn:=SThing→Option Bool
abbrev LAm:=Bool→Int→Option Int
abbrev Uu:=SThing→Option (ByteArray×Bool)
abbrev Ew:=SRec→Option (ByteArray×Bool)
abbrev Gw:=SBook→Option Bool
abbrev Vu:=SBook→Option SBook
abbrev Zn:=SBook→Int→Option (SThing×Bool)
abbrev UAC:=SThing→SThing→Option Bool
abbrev AAb:=List SThing→SThing→Option (List SThing)
abbrev Hw:=SBook→SRec→Option (SBook×Bool)
abbrev Jy:=ByteArray→Int→Option ByteArray
abbrev Ql:=ByteArray→ByteArray→Option ByteArray
abbrev C9:=ByteArray→Int→Int→Option (ByteArray×Bool)
abbrev D9:=ByteArray→Int→ByteArray→Option ByteArray
abbrev Rl:=ByteArray→Int→ByteArray→Option (ByteArray×Bool)
abbrev WAG:=Int→ByteArray→Option Int
abbrev F9:=ByteArray→Option Int
abbrev Iw:=ByteArray→Option (ByteArray×Bool)
abbrev KAO:=ByteArray→Int→SRec→Option (List SAct×Bool)
abbrev LAO:=ByteArray→Option Bool
abbrev Pq:=SDisk→Option Bool
abbrev Z4:=SDisk→ByteArray→Option Int
abbrev MAm:=SDisk→SFile→Option SDisk
abbrev NAm:=SDisk→ByteArray→Option SDisk
abbrev BAb:=SDisk→SAct→Option (SDisk×Bool)
abbrev MAO:=SDisk→List SAct→Option (SDisk×Int)
abbrev NAO:=ByteArray→SDisk→Int→SRec→Option SDisk
abbrev OAm:=ByteArray→ByteArray→Option (SBox×Bool)
abbrev XAG:=ByteArray→ByteArray→Option (SLife×Bool)
abbrev VAC:=SL01Cur→Int→Option (Bool×SL01Cur)
abbrev CAb:=SL01Cur→List Int→Option (Int×SL01Cur)
abbrev OAO:=SL01Cur→List ByteArray→Option (ByteArray×SL01Cur)
abbrev PAm:=SL01Cur→Int→Option (ByteArray×SL01Cur)
abbrev DAb:=SL01Cur→Option (SThing×SL01Cur)
abbrev Ky:=SBox→Option ByteArray
abbrev Og:=ByteArray→ByteArray→Option (ByteArray×Bool)
abbrev EAb:=SL01Cur→SBox→ByteArray→Option (SCall×SL01Cur)
abbrev FAb:=SL01Cur→SLife→Option (SEvent×SL01Cur×SLife)
abbrev WAC:=SLife→Int→ByteArray→Option SLife
abbrev G9:=Int→ByteArray→Option (List SRec×Int×ByteArray)
abbrev Ac:=Int→Option Int
abbrev XAC:=List SRec→ByteArray→Option (List SRec×Int×ByteArray)
abbrev Bo:=SBox→Int→Option Int
abbrev Fh:=SBox→SCall→Option (List SRec×Int×ByteArray)
abbrev YAG:=Int→ByteArray→Option (SThing×Bool)
abbrev PAO:=SThing→Option (List SRec)
abbrev H9:=SBox→SCall→SThing→Bool→Option (List SRec×Int×ByteArray)
abbrev QAm:=ByteArray→ByteArray→Option Bool
abbrev Us:=ByteArray→Int→Option (Int×Int×Bool)
abbrev I9:=SL19Cur→Option (Int×SL19Cur)
abbrev QAO:=SL19Cur→Int→Option (ByteArray×SL19Cur)
abbrev RAm:=SL19Cur→Option (ByteArray×SL19Cur)
abbrev J9:=ByteArray→Option (SThing×Bool)
abbrev AAH:=SThing→Option SThing
abbrev BAH:=SThing→Int→Option Bool
abbrev GAb:=SBox→SThing→Option Int
abbrev Ny:=ByteArray→Int→Option (List ByteArray)
abbrev Wu:=ByteArray→Int→Int→Int→Int→Option ByteArray
abbrev L9:=List ByteArray→Int→Option ByteArray
abbrev N9:=ByteArray→Option (List ByteArray)
abbrev O9:=Int→Int→ByteArray→ByteArray→Option ByteArray
abbrev Xu:=Int→List ByteArray→Option (List ByteArray)
abbrev CAH:=List ByteArray→Option ByteArray
abbrev DAH:=List ByteArray→Int→ByteArray→Option (List ByteArray)
abbrev EAH:=List ByteArray→Int→Option (List ByteArray)
abbrev FAH:=ByteArray→Int→ByteArray→Option (SSig×Bool)
abbrev GAH:=ByteArray→Int→ByteArray→Option (SHyper×Bool)
abbrev P9:=SSig→Option Bool
abbrev HAH:=SSig→Option (ByteArray×Bool)
abbrev IAH:=SHyper→Option (ByteArray×Bool)
abbrev Yu:=SBox→SCall→SThing→Option (List SRec×Int×ByteArray)
abbrev Qd:=Int→Int→Option Int
abbrev HAb:=List Int→List Int→Int→Option (List Int)
abbrev Ed:=List Int→Option (List Int)
abbrev JAH:=ByteArray→Int→Int→Option ByteArray
abbrev Oy:=ByteArray→Option SStream
abbrev Py:=SStream→Int→Option (SStream×ByteArray)
abbrev Q9:=ByteArray→Int→Int→Option (List Int)
abbrev IAb:=ByteArray→Option (List (List Int))
abbrev S9:=ByteArray→Int→Option (ByteArray×Bool)
abbrev Jw:=ByteArray→Int→Option (List Int)
abbrev Sl:=List Int→Option Bool
abbrev SAm:=List Int→Int→Option (ByteArray×Bool)
abbrev Qi:=List Int→List Int→Option (List Int)
abbrev Zu:=List (List Int)→List (List Int)→Option (List Int)
abbrev U9:=ByteArray→Option (SPair×Bool)
abbrev KAH:=ByteArray→Option (List (List Int)×Bool)
abbrev LAH:=ByteArray→ByteArray→Option (List Int×Bool)
abbrev MAH:=List Int→Int→Option ByteArray
abbrev JAb:=ByteArray→ByteArray→Option (ByteArray×ByteArray×Bool)
abbrev NAH:=SThing→Bool→Bool→Option (SThing×Bool)
abbrev OAH:=SThing→Option ByteArray
abbrev TAm:=SDisk→List Int→Option (SDisk×Bool)
abbrev KAb:=SDisk→List SAct→Int→List Int→Option (SDisk×Bool)
abbrev V9:=SDisk→ByteArray→Option (ByteArray×Bool)
abbrev W9:=ByteArray→Option (List ByteArray×Int)
abbrev X9:=ByteArray→Option (SRec×Bool)
abbrev Y9:=ByteArray→ByteArray→Option (List SRec×Int)
abbrev PAH:=SLife→SRec→Option SLife
abbrev Qy:=SBox→Option SBox
abbrev LAb:=ByteArray×Bool×List SFile×ByteArray×Int×Unit×Int×ByteArray×Int×Unit×Unit×Int→Option SBox
abbrev MAb:=SLife→SRec→List Int→Option SLife
abbrev NAb:=List SLive→Int→Int→Option (List SLive)
abbrev OAb:=SBox→SCall→Int→Int→Option SBox
abbrev D5:=SLife→Int→SEvent→Option SLife
abbrev Z9:=SBook→SBook→Option Bool
abbrev AAA:=SBook→List SRec→Option (SBook×Bool)
abbrev E5:=ByteArray→SDisk→Option (SBook×List SAct×Bool)
abbrev Lm:=SBox→Option Bool
abbrev UAm:=SBox→Option (SBox×Bool)
abbrev VAm:=SL01Cur→Unit→Option (SL24Drawn×SL01Cur)
abbrev Kw:=SCall→Option Bool
abbrev PAb:=SEvent→Option Bool
abbrev WAm:=ByteArray→ByteArray→List SEvent→Option (SLife×Bool)
abbrev XAm:=SL01Cur→Unit→Option (SBox×SL01Cur)
abbrev QAb:=Unit→Option (SBox×SCall)
abbrev RAb:=List Int→ByteArray→Option (List Int)
abbrev YAm:=List Int→ByteArray→Option (List Int×ByteArray)
abbrev ZAm:=List SThing→List SThing→Option Bool
abbrev SAb:=Int→Option (ByteArray×Bool)
abbrev AAn:=SFields→Option (Int×SFields)
abbrev TAb:=ByteArray→Int→Option (ByteArray×Int×Bool)
abbrev BAn:=SFields→Option (ByteArray×SFields)
abbrev CAn:=SThing→Option Int
abbrev RAO:=SBook→Int→Option Int
abbrev DAn:=SBook→SThing→Option (Bool×SBook)
abbrev YAC:=Int→Option (List SRec×Int×ByteArray)
abbrev ZAC:=List Int→Int→Option (List Int)
abbrev YA4:=List Int→Int→Int→Bool→Bool→Option (List Int×ByteArray)
abbrev EAn:=List ByteArray→Int→Nat→Nat→Option ByteArray
abbrev FAn:=List ByteArray→Int→Option Bool
abbrev UAb:=ByteArray→Int→Option (List (List Int))
abbrev VAb:=List (List Int)→Option (List (List Int))
abbrev WAb:=ByteArray→Int→Bool→Option (List (List Int))
abbrev GAn:=List Int→List Int→Nat→Option (List Int)
abbrev HAn:=ByteArray→Int→Int→Option (List Int×Bool)
abbrev XAb:=List SRec→List SRec→Option Bool
def MZ (a b:Int):Bool:=decide (a<b)
def Ej (a:Int):Bool:=decide (0≤a)
def RZ (a b:Int):Bool:=(Ej a) && (MZ a b)
def FZ (a b:ByteArray):Bool:=decide ((a.size+b.size)≤9223372036854775807)
def IK:ByteArray:=⟨#[]⟩
def GZ (a:Int):Nat:=a.toNat
def AAD (b:SDisk) (c:Int) (a:ByteArray):SFile:=b.fFiles.getD (GZ c) (⟨a,a,0⟩:SFile)
def Dh (a:Nat) (b c:Int):Int:=((BitVec.toNat ((BitVec.ofInt a b) ^^^ (BitVec.ofInt a c)):Nat):Int)
def Nb (a:Nat):Bool:=decide (a≤140737488355328)
def VZ (b:Option (List SRec×Int×ByteArray)):Option (List SRec×Int×ByteArray):=b.bind fun a=>some (a.1,a.2.1,a.2.2)
def Zo (a:ByteArray):List UInt8:=ByteArray.toList a
def Jc (a b:ByteArray):Bool:=(Zo a) == (Zo b)
def Bg:Nat:=IntKind.bits IntKind.i64
def IZ (a:List Int):Int:=(a.length:Int)
def FN (a:Int):Int:=w64 a
def NM (a:Int):Int:=FN (a+1)
def Dc:Nat:=IntKind.bits IntKind.u32
def XZ (a:SL01Cur):SL01Cur:=⟨(),a.fI,a.fH⟩
def TT (a:ByteArray):Int:=(a.size:Int)
def Ud (a b:Int):Bool:=decide (a≤b)
def Sj (a b:Int):Bool:=(Ej a) && (Ud a b)
def JZ (a:List Int) (b:Int):Int:=a.getD (GZ b) 0
def IAn:List Int:=[(1116352408:Int),(1899447441:Int),(3049323471:Int),(3921009573:Int),(961987163:Int),(1508970993:Int),(2453635748:Int),(2870763221:Int),(3624381080:Int),(310598401:Int),(607225278:Int),(1426881987:Int),(1925078388:Int),(2162078206:Int),(2614888103:Int),(3248222580:Int),(3835390401:Int),(4022224774:Int),(264347078:Int),(604807628:Int),(770255983:Int),(1249150122:Int),(1555081692:Int),(1996064986:Int),(2554220882:Int),(2821834349:Int),(2952996808:Int),(3210313671:Int),(3336571891:Int),(3584528711:Int),(113926993:Int),(338241895:Int),(666307205:Int),(773529912:Int),(1294757372:Int),(1396182291:Int),(1695183700:Int),(1986661051:Int),(2177026350:Int),(2456956037:Int),(2730485921:Int),(2820302411:Int),(3259730800:Int),(3345764771:Int),(3516065817:Int),(3600352804:Int),(4094571909:Int),(275423344:Int),(430227734:Int),(506948616:Int),(659060556:Int),(883997877:Int),(958139571:Int),(1322822218:Int),(1537002063:Int),(1747873779:Int),(1955562222:Int),(2024104815:Int),(2227730452:Int),(2361852424:Int),(2428436474:Int),(2756734187:Int),(3204031479:Int),(3329325298:Int)]
def Ce:Nat:=IntKind.bits IntKind.u64
def Ee (b:Pq) (c:SDisk) (d e:SDisk×Bool):Option (SDisk×Bool):=(b c).bind fun a=>cond (!a) (some d) (some e)
def Qb (a:ByteArray):ByteArray:=(a:ByteArray)
def Eb (a:List SThing) (b:Int) (c:SThing):SThing:=a.getD (GZ b) (c:SThing)
def Ea:Int:=(0:Int)
def Ap (a:Nat) (b c:Int):Int:=((BitVec.toNat ((BitVec.ofInt a b) &&& (BitVec.ofInt a c)):Nat):Int)
def Yc:SBook:=⟨IK,0,[],0,IK,0⟩
def Om (c:VAC) (d:SL01Cur) (e:SEvent) (b:SLife) (f:SEvent):Option (SEvent×SL01Cur×SLife):=(c (XZ d) 30).bind fun a=>cond a.1 (some (e,XZ a.2,b)) (some (f,XZ a.2,b))
def Tj (b a c:Int):Bool:=(Sj b a) && (Ud a c)
def Ul (a:Int):Int:=FN ((a.tmod 56)*3)
def BAA (c:Ew) (d:SRec) (e:Bool) (b:Option (SRec×Bool)) (f:ByteArray) (g:Option (SRec×Bool)):Option (SRec×Bool):=(c d).bind fun a=>cond e b (cond (!a.2) b (cond (!(Jc a.1 f)) b g))
def JAn:ByteArray:=Qb ⟨#[48,48,48,49,48,50,48,51,48,52,48,53,48,54,48,55,48,56,48,57,49,48,49,49,49,50,49,51,49,52,49,53,49,54,49,55,49,56,49,57,50,48,50,49,50,50,50,51,50,52,50,53,50,54,50,55,50,56,50,57,51,48,51,49,51,50,51,51,51,52,51,53,51,54,51,55,51,56,51,57,52,48,52,49,52,50,52,51,52,52,52,53,52,54,52,55,52,56,52,57,53,48,53,49,53,50,53,51,53,52,53,53,53,54,53,55,53,56,53,57,54,48,54,49,54,50,54,51,54,52,54,53,54,54,54,55,54,56,54,57,55,48,55,49,55,50,55,51,55,52,55,53,55,54,55,55,55,56,55,57,56,48,56,49,56,50,56,51,56,52,56,53,56,54,56,55,56,56,56,57,57,48,57,49,57,50,57,51,57,52,57,53,57,54,57,55,57,56,57,57]⟩
def Hf (a:List SRec) (b:Int) (c:ByteArray) (d:SThing):SRec:=a.getD (GZ b) (⟨0,c,0,d⟩:SRec)
def PZ (a:SBook):List SThing:=a.fThings
def Jd (a:SBook):Int:=((PZ a).length:Int)
def Fb (a:Int):Nat:=GZ (FN a)
def Ry (a:Nat) (b:Int):Int:=((BitVec.toNat ((BitVec.ofInt a b) &&& (BitVec.ofInt a 1)):Nat):Int)
def QZ:SDisk:=⟨[]⟩
def F5 (a b:Int):Bool:=(decide (a≤a)) && (decide (0<b))
def Ba (a:Int) (b:Nat):Bool:=RZ a (b:Int)
def Me (a:List ByteArray) (b:Int) (c:ByteArray):ByteArray:=a.getD (GZ b) (Qb c)
def Mc (a:List ByteArray):Int:=(a.length:Int)
def Xd (a:List Int):Bool:=Nat.beq 25 a.length
def Vl (a b:Nat):Int:=2 ^ (Min.min a b)
def Jf (a:SLife):SBook:=a.fBox.fBook
def Dp:Nat:=IntKind.bits IntKind.u8
def Yb (a:Int) (b:List Int):Bool:=RZ (FN a) (IZ b)
def Va (a b:Int):Int:=FN (a+b)
def Pm (a b:Int):Int:=Va (FN a) (FN b)
def Pg (b:Option ByteArray):Option ByteArray:=b.bind fun a=>some a
def Ep:ByteArray:=⟨#[98,111,111,107,43]⟩
def Qq (a:ByteArray):Bool:=decide (a.size≤9223372036854775807)
def Nh (a:SDisk) (b:Int):ByteArray:=(AAD a b IK).fText
def Vs (a:Int):List Int:=List.replicate (GZ a) Ea
def UZ (a:Bool) (b c:Option Bool):Option Bool:=cond a b c
def SAO (f:SThing) (a:Int) (b c:Bool) (d e:Option Bool):Option Bool:=UZ (f.fKind == 1) (UZ (a == 1) (some b) (UZ c d e)) (UZ (a == 2) (some b) (UZ c d e))
def Ze (a b:Int):Int:=FN (a - b)
def Wl:Int:=Ze (168:Int) Ea
def Lc (a:SThing):ByteArray:=a.fValue
def Ad (a:SThing):Bool:=a.fWraps
def Ld (a:SThing):Bool:=a.fSigns
def G5 (a:SThing) (b c:Bool):SThing:=⟨a.fId,a.fKind,b,c,Ld a,Ad a,Lc a,a.fNext⟩
def Ii (a:ByteArray) (b c:Int):ByteArray:=a.extract (GZ b) (Fb c)
def Oh (a:List Int):Bool:=Nat.beq 8 a.length
def Vd (a:SBox):List SSession:=a.fSessions
def Qg (a:SBox):Nat:=(Vd a).length
def Fg (a:Int):Int:=FN (a.tdiv 2)
def Qa (a:Int) (b:List Int):Bool:=RZ a (IZ b)
def Yk (a:List SSession) (b:Int) (c:SSession):SSession:=a.getD (GZ b) (c:SSession)
def TAO (a:SL01Cur):Int:=FN ((FN (a.fH*6364136223846793005))+1442695040888963407)
def YAb (a:Nat) (b:Int):Int:=((BitVec.toNat ((BitVec.ofInt a b) &&& (BitVec.ofInt a 255)):Nat):Int)
def Ws (a:Int):Int:=Vl (GZ a) Bg
def Eo (a b:Int):Int:=Int.fdiv a b
def KAn (a:SL01Cur):Int:=YAb Bg (FN (Dh Bg (Eo (TAO a) (Ws (33:Int))) (Eo (TAO a) (Ws (45:Int)))))
def Nc (a:Bool) (b:Option ByteArray):Option ByteArray:=cond a b none
def Af (a:SDisk):Nat:=a.fFiles.length
def ZAb (a:Int):Bool:=((Ej a) && (decide (a≤a))) && (decide (a≤9223372036854775807))
def Ri (a:ByteArray) (b:Int):Int:=FN (bt a b)
def CAD (a:SStream×ByteArray) (b:Int):Int:=Pm (bt a.2 (Ul b)) (256*((Ri a.2 (NM (Ul b))).tmod 16))
def QAH (a:SThing):Option Bool:=some (decide ((TT (Lc a))≤100))
def Nw (a:ByteArray):Bool:=(TT a) == 32
def UAO (a:SThing):Option Bool:=UZ (a.fKind == 3) (QAH a) (some (Nw (Lc a)))
def Xl (a:List ByteArray):Bool:=Nb ((a.length+1)*16)
def AAc:SLive:=(⟨0,0⟩:SLive)
def CAA (a:Int):Int:=(FN a).tmod 3329
def DAD (a b:Int):Int:=CAA (a*b)
def Uc (a:List Int) (b:Int):Int:=JZ a (FN b)
def VAO (a:List Int) (b c d:Int):List Int:=a.set (Fb (b+c)) (CAA ((Ze (JZ a b) (DAD d (Uc a (b+c))))+3329))
def LAn (b c a:Int×SFields) (d:ByteArray×SFields) (e:Int×SFields):SThing:=⟨b.1,c.1,(FN (Ry Bg a.1)) != 0,(FN ((BitVec.toNat ((BitVec.ofInt Bg a.1) &&& (BitVec.ofInt Bg 2)):Nat):Int)) != 0,(FN ((BitVec.toNat ((BitVec.ofInt Bg a.1) &&& (BitVec.ofInt Bg 4)):Nat):Int)) != 0,(FN ((BitVec.toNat ((BitVec.ofInt Bg a.1) &&& (BitVec.ofInt Bg 8)):Nat):Int)) != 0,d.1,e.1⟩
def Bc (a:Bool) (b:Option (ByteArray×Bool)):Option (ByteArray×Bool):=cond a b none
def Fp (a:ByteArray) (b:Int):ByteArray:=a.extract (GZ b) a.size
def EAD (a:ByteArray) (b:Int):Int:=Pm (bt a (Ul b)) (256*((Ri a (NM (Ul b))).tmod 16))
def Uj (b c d:Option Bool):Option Bool:=b.bind fun a=>UZ a c d
def Zk (a:SBox):Int:=NM a.fBook.fLast
def Oe (a:SBook):Int:=a.fTries
def OZ (a:SRec):SThing:=a.fThing
def Ho (a:SBook):Int:=NM a.fCount
def I5 (a:SBook) (b:List SThing) (c:SRec) (d:ByteArray) (e:SBook):SBook:=⟨a.fWord,Oe a,b,(OZ c).fId,d,Ho e⟩
def Si (a:SDisk) (b:Int):Int:=(AAD a b IK).fKept
def Qm (a:List Int):Bool:=Nb ((a.length+1)*1)
def Ph (a:SLife):List ByteArray:=a.fReplies
def Fj (a:SCall):Int:=a.fSession
def WAO (a:SCall×SL01Cur) (b:SLife) (c:Int×SL01Cur):SCall:=⟨a.1.fOp,Fj a.1,a.1.fThing,a.1.fKind,Me (Ph b) c.1 IK,a.1.fHidden,a.1.fFixed⟩
def XAO (a:Int):Int:=((BitVec.toNat ((BitVec.ofInt Bg a) ^^^ (BitVec.ofInt Bg 1)):Nat):Int)
def Gp:ByteArray:=Qb ⟨#[116]⟩
def BAc (a:SCall):SCall:=⟨a.fOp,Fj a,a.fThing,a.fKind,⟨#[108,111,110,103]⟩,a.fHidden,a.fFixed⟩
def Ti:Int:=(1:Int)
def Bl (a:List Int):Option ByteArray:=some (ofBytes a)
def Ui (a:Int):Int:=NM (FN (2*a))
def RAH (b:Int) (c:ByteArray) (d a:Int):Int:=Va b (FN (((Ri c (Va d a)).tmod 128)*(Vl (Fb (7*a)) Bg)))
def EZ (a:ByteArray×Bool):Option (ByteArray×Bool):=some a
def Bv (a b:List Int):Bool:=Nat.beq a.length b.length
def DAA:ByteArray:=⟨#[112,111,108,105,99,121]⟩
def Rq (a:ByteArray) (b:Int):ByteArray:=a.extract 0 (GZ b)
def Tq (a:List Int):Bool:=Nb ((a.length+1)*8)
def Qh (a:Int):Bool:=decide (a<0)
def J5:ByteArray:=⟨#[98,111,111,107]⟩
def Vj (a:SDisk) (b:Int):ByteArray:=(AAD a b IK).fName
def Yl (a:Int):Bool:=decide (a > 0)
def Na (a:Int):Int:=wu64 a
def CAc (a:Int):Int:=Na ((BitVec.toNat ((BitVec.ofInt Ce (Na a)) &&& (BitVec.ofInt Ce 31)):Nat):Int)
def DAc (a:Int):Int:=Na ((BitVec.toNat ((BitVec.ofInt Ce (Na a)) &&& (BitVec.ofInt Ce 63)):Nat):Int)
def Dt (a:List Int):Bool:=Nat.beq 64 a.length
def Io (a:Int):Bool:=(a.tmod 2) == 1
def EAA (a:Nat) (b c:Int):Int:=((BitVec.toNat ((BitVec.ofInt a b) ||| (BitVec.ofInt a c)):Nat):Int)
def Ip (a:SStream):Int:=FN (168 - a.fAt)
def Uy (a b:Int):Int:=Eo a (Vl (GZ b) Dc)
def MAn:ByteArray:=Qb ⟨#[48,49,50,51,52,53,54,55,56,57,97,98,99,100,101,102,103,104,105,106,107,108,109,110,111,112,113,114,115,116,117,118,119,120,121,122]⟩
def YAO (a:SStream×ByteArray) (b:Int):Int:=Pm ((Ri a.2 (NM (Ul b))).tdiv 16) (16*(Ri a.2 (FN ((Ul b)+2))))
def FAA (a:ByteArray):ByteArray:=a.extract 0 (Fb ((TT a) - 16))
def O5 (a:SBook) (b:List SThing) (c:ByteArray) (d:SBook):SBook:=⟨a.fWord,Oe a,b,a.fLast,c,Ho d⟩
def ZAO (a:ByteArray) (b:Int):Int:=Pm ((Ri a (NM (Ul b))).tdiv 16) (16*(Ri a (FN ((Ul b)+2))))
def P5:SFile:=(⟨IK,IK,0⟩:SFile)
def EAc (a:Int):Int:=FN ((BitVec.toNat ((BitVec.ofInt Bg (FN a)) ^^^ (BitVec.ofInt Bg 113)):Nat):Int)
def Qw (a:List SFile):Bool:=Nb ((a.length+1)*40)
def AAP (b:ByteArray) (a:Int):Int:=FN (Eo (bt b (Fg a)) (Vl (Fb (4*(a.tmod 2))) Dp))
def GAA:ByteArray:=⟨#[100,111,119,110]⟩
def HAA:List Int:=List.replicate 25 Ea
def Et (a:Bool) (b c:SBook×Bool):Option (SBook×Bool):=cond (!a) (some b) (some c)
def Dv (b:Option SLife):Option SLife:=b.bind fun a=>some a
def Jo (a:Nat) (b c:Int):Int:=w32 (Dh a b c)
def FAD (a b:Int):Int:=Jo Dc (w32 a) (w32 b)
def Ko (a:SBox):Nat:=a.fLives.length
def Fv (a:SLife):List SFile:=a.fBox.fDisk.fFiles
def Ub (a:SBook):ByteArray:=a.fChain
def Rw (a:Int×Int×Bool):Int:=(FN (a.2.1+4))+a.1
def Gj (a b:Int):Int:=a+(FN (5*b))
def Gt (a:Int):Bool:=decide (a≥0)
def GAD:ByteArray:=⟨#[102,117,108,108]⟩
def Ht (a:Int):Bool:=decide (a<256)
def Ib (a:Int):Bool:=a == 0
def NAn (a:List Int):List Int:=a.set (Fb ((IZ a) - 1)) (w8 ((BitVec.toNat ((BitVec.ofInt Dp (Uc a ((IZ a) - 1))) ^^^ (BitVec.ofInt Dp 128)):Nat):Int))
def Jp (a:List SLive) (b:Int):SLive:=a.getD (GZ b) AAc
def Eh (a:Int):Int:=a.tmod 5
def Sm (a:SLife):Int:=(Jf a).fCount
def Gh (a:Int) (b:Nat):Bool:=MZ a (b:Int)
def Q5 (a:List (List Int)):Bool:=Nb ((a.length+1)*24)
def Wj (a:ByteArray):List Int:=bytesOf a
def SAH (a:List Int) (b:ByteArray):Bool:=Nb ((a.length+(Wj b).length)*1)
def Uw:Option Int:=some (-Ti)
def TAH:ByteArray:=Qb ⟨#[111,117,116]⟩
def Vq (a:SLife):Int:=a.fBox.fOpened
def OAn:List Int:=[1779033703,3144134277,1013904242,2773480762,1359893119,2600822924,528734635,1541459225]
def Oo:ByteArray:=Qb IK
def U5:List Int:=Vs (256:Int)
def Np:Int:=(4:Int)
def Um (a:Int):Int:=FN (a - 1)
def V5 (b:Option Bool):Option Bool:=b.bind fun a=>some a
def Wi (a:SDisk) (b:Int):Int:=TT (Nh a b)
def Qe (a:SThing):Bool:=a.fHidden
def ZA4 (a:SAct):Bool:=Jc a.fTo a.fName
def BAP (a:ByteArray):ByteArray:=a.extract (Fb ((TT a) - 32)) a.size
def CAP (a:ByteArray):Bool:=(Ud Ea Ti) && (decide (1≤(TT a)))
def Vm (a:SBook) (b:ByteArray×Bool):Bool:=FZ (Ub a) b.1
def DAP:ByteArray:=⟨#[119,114,111,110,103]⟩
def Ug (a:Bool) (b:Option (List Int)):Option (List Int):=cond a b none
def IAD:ByteArray:=Qb ⟨#[109]⟩
def EAP (a:Int):Bool:=(Ud Ea (2:Int)) && (decide (2<a))
def Po (a:Int) (b:List ByteArray):Bool:=Ba a b.length
def PAn (i:LZ) (b:ByteArray) (f:Jy) (g:ByteArray) (h:NZ):Option ByteArray:=(i (FN (64 - (TT b)))).bind fun a=>Nc (FZ b a) ((f (b++a) 92).bind fun c=>(f (b++a) 54).bind fun d=>Nc (FZ d g) ((h (d++g)).bind fun e=>Nc (FZ c e) (Pg (h (c++e)))))
def FAP (a:List Int):Bool:=(Ud Ea Np) && (decide (4<(IZ a)))
def HAP (a:List ByteArray):Option ByteArray:=Nc (F5 Ea (Mc a)) (some (Me a Ea IK))
def Bf (a b c:ByteArray):Bool:=FZ (a++b) c
def QAn (a:ByteArray) (b:Int):List SAct:=[(⟨4,Ep,IK,IK⟩:SAct)]++[(⟨1,Ep,Rq a b,IK⟩:SAct),(⟨2,Ep,IK,IK⟩:SAct),(⟨3,Ep,IK,J5⟩:SAct)]
def Vw (a:Int):Bool:=decide (a<2)
def JAD:ByteArray:=Qb ⟨#[32]⟩
def FAc (a:Int):Int:=w32 ((w32 ((2147483648:Int).tdiv a))*2)
def Bd (a:SThing):Bool:=a.fFixed
def Gv:Option ByteArray:=some IK
def Dl (a:Int) (b:ByteArray):Int:=Ze a (TT b)
def X5 (b:SAct) (c:SDisk×Bool) (d:Option Bool) (e f:Option (SDisk×Bool)):Option (SDisk×Bool):=cond (ZA4 b) (some c) (d.bind fun a=>cond (!a) e f)
def Wq (a:SLife):Int:=(Jf a).fLast
def Vy (a:Int):Bool:=a == a
def IAP (a:ByteArray):Bool:=Sj (FN ((TT a) - 16)) (TT a)
def Oc (a:List Int):Option (List Int):=some a
def Xw (a:List Int):Bool:=F5 Ea (IZ a)
def KAD:SSig:=⟨0,[],[]⟩
def GAc (a:SDisk) (b:Int):SFile:=(⟨Vj a b,Rq (Nh a b) (Si a b),Si a b⟩:SFile)
def LAD (a:SRec):Bool:=Jc (Lc (OZ a)) IK
def HAc:List ByteArray:=[⟨#[97]⟩,⟨#[98]⟩,⟨#[99]⟩]
def MAD (a:Int):Int:=FN (a.tdiv 16)
def Xm (a:Int):Int:=a.tdiv 8
def UAH:ByteArray:=Qb ⟨#[108]⟩
def Xq (a:SLife):ByteArray:=(Jf a).fWord
def IAA (a:Int):Int:=FN (a.tdiv 4)
def NAD (a b:Int):Int:=Eh (Pm (2*a) (3*b))
def RAn (a:ByteArray):Bool:=((Ud Ea (768:Int)) && (Ud (768:Int) (1568:Int))) && (decide (1568≤(TT a)))
def JAP (a:Int):Bool:=(Ud Ea Ti) && (decide (1<a))
def Qo (a:SLife):ByteArray:=a.fBox.fKey
def Wy (a b:Int):Bool:=decide (a≥b)
def Jv (a:SLife):List SLive:=a.fBox.fLives
def KAP (a:SAct):SFile:=⟨a.fName,Oo++a.fText,0⟩
def JAA (a:Int):Bool:=decide (a<3329)
def SAn (a b:Int):Int:=FN ((Ze (Ze (Va (a.tmod 2) (b.tmod 2)) ((IAA a).tmod 2)) ((FN (Xm a)).tmod 2))+3329)
def Yq (a:SLife):Int:=Oe (Jf a)
abbrev mk {R:Type} (c:R) {x:R} (_h:x=c:=by (first|delta RZ FZ IK AAD Dh Nb VZ Jc Bg IZ NM Dc XZ TT Sj JZ IAn Ce Ee FN Qb Eb Ea Ap Yc Om Tj Ul MZ BAA JAn Hf Jd Fb Ry QZ F5 Ba Me Mc Xd Vl Jf Dp Yb Pm Pg Ep Qq Nh Vs Ud SAO Wl G5 Ii Oh Qg Fg Qa Yk KAn Nc Af ZAb CAD PZ UAO Ri Xl AAc VAO LAn Bc Fp EAD Uj Zk I5 Si Qm OZ WAO Ho Uc XAO Gp BAc Ti Bl Ui RAH EZ Bv Ze DAA Ej Rq Tq Qh J5 Vj Yl CAc DAc Dt Io TAO EAA Vd Ip Uy MAn YAO FAA O5 ZAO P5 EAc Qw Zo AAP GAA HAA Et Na Dv GZ FAD Ko Fv Ub Rw QAH Gj Gt GAD Ht Ib NAn Jp Eh Sm Gh Q5 SAH Uw TAH Wj Vq OAn Oo U5 Np Um V5 Wi YAb Lc Qe ZA4 BAP Ws Oe CAP Vm DAP Ug IAD EAP Po PAn FAP Ph HAP Ad Bf Fj QAn Vw JAD FAc Bd Jo Gv Dl X5 Wq Eo Vy Va Ld DAD IAP Oc Xw KAD GAc LAD HAc MAD Xm UAH Xq IAA NAD RAn JAP Qo Wy Jv Nw KAP JAA SAn Yq UZ CAA|skip);exact rfl):R:=x
def AA5:SAG:=fun a=>mk (some (decide ((IZ codeL) > 1048576)))
def IAc:SAG:=AA5
def SBJ:fK:=fy0 u1 IAc cv0 cv1 [] Tryz.func4 AA5
inductive LAP where
 |c0 (a b:Int)
def TBJ:LAP→lQ
 |.c0 a b=>(tdo Tryz.f12 464,[(0,[.one (.csl)]),vi 3 a,vi 4 b],[])
def TAn (k:kS LAP SL01Cur):GAm:=fun a=>mk (k (.c0 (FN (27401+(IZ codeL))) 0))
def JAc (k:kS LAP SL01Cur):kS LAP SL01Cur
 |.c0 b a=>mk (cond (MZ a (IZ codeL)) (cond (a<4000) (cond (Qa a codeL) (cond (Nat.blt (GZ a) codeL.length) (k (.c0 (FN ((BitVec.toNat ((BitVec.ofInt Bg (FN ((Pm (b*131) (JZ codeL a))+7))) &&& (BitVec.ofInt Bg 1073741823)):Nat):Int)) (NM a))) none) none) (some ⟨(),0,b⟩)) (some ⟨(),0,b⟩))
def VAH:kN LAP SL01Cur
 |0,_=>none
 |m+1,s=>JAc (VAH m) s
def KAc:GAm:=TAn (VAH gas)
def UBJ:fK:=fy u1 KAc cv0 cv2 [] Tryz.func12 TBJ JAc TAn VAH
def UAn:JAO:=fun a=>mk (cond (MZ a.fI (IZ codeL)) (cond (RZ a.fI (IZ codeL)) (cond (Nat.blt (GZ a.fI) codeL.length) (some (FN (YAb Bg (Pm (KAn a) (JZ codeL a.fI))),⟨(),NM a.fI,TAO a⟩)) none) none) (some (FN (KAn a),⟨(),a.fI,TAO a⟩)))
def WAH:JAO:=UAn
def BA5:fK:=fy0 u1 WAH cv3 cv4 [] Tryz.func98 UAn [0]
def VAn (b:JAO):Dw:=fun c a=>mk (cond (a≤0) (some (0,XZ c)) (cond (a≤256) ((b (XZ c)).bind fun d=>cond (!(Ib a)) (some (d.1.tmod a,XZ d.2)) none) ((b (XZ c)).bind fun e=>(b (XZ e.2)).bind fun f=>(b (XZ f.2)).bind fun g=>(b (XZ g.2)).bind fun h=>cond (!(Ib a)) (some ((Va (Pm ((FN (e.1*16777216))+(FN (f.1*65536))) (g.1*256)) h.1).tmod a,XZ h.2)) none)))
def Zq:Dw:=VAn WAH
def OAD:fK:=fy0 u2 Zq cv5 cv4 [BA5] Tryz.func40 VAn [0]
inductive NAP where
 |c0 (a b d:Int) (e:(List Int))
def VBJ:NAP→lQ
 |.c0 a b d e=>(tdo Tryz.f92 464,[vi 0 a,(1,[.one (.int .u8 b)]),vo 5 368,vi 6 d],[(368,.sl 5 e)])
def WAn (k:kS NAP ByteArray):Z8:=fun a b=>mk (cond ((ZAb a) && (Nb ((GZ a)*1))) (k (.c0 a b 0 (Vs a))) none)
def LAc (k:kS NAP ByteArray):kS NAP ByteArray
 |.c0 c d a b=>mk (cond (MZ a c) (cond (Qa a b) (k (.c0 c d (NM a) (b.set (GZ a) d))) none) (Bl b))
def XAH:kN NAP ByteArray
 |0,_=>none
 |m+1,s=>LAc (XAH m) s
def PAD:Z8:=WAn (XAH gas)
def CA5:fK:=fy u2 PAD cv6 cv7 [] Tryz.func92 VBJ LAc WAn XAH
def DA5:Ol:=mk (Oc OAn)
def EA5:Ol:=DA5
def WBJ:fK:=fy0 u0 EA5 cv8 cv9 [] Tryz.func196 DA5
inductive OAP where
 |c0 (a:(List Int)) (b:Int) (d:(List Int))
def XBJ:OAP→lQ
 |.c0 a b d=>(tdo Tryz.f195 464,[vr 0 96 a,vo 3 240,vi 4 b],[(240,.sl 5 d)])
def FA5 (k:kS OAP ByteArray):Bh:=fun a=>k (.c0 a 0 [])
def MAc (k:kS OAP ByteArray):kS OAP ByteArray
 |.c0 b a c=>mk (cond (MZ a (IZ b)) (cond (Qa a b) (cond (Nb ((c.length+4)*1)) (k (.c0 b (NM a) (c++[w8 (w32 ((JZ b a).tdiv 16777216)),w8 ((w32 ((JZ b a).tdiv 65536)).tmod 256),w8 ((w32 ((JZ b a).tdiv 256)).tmod 256),w8 ((JZ b a).tmod 256)]))) none) none) (Bl c))
def YAH:kN OAP ByteArray
 |0,_=>none
 |m+1,s=>MAc (YAH m) s
def QAD:Bh:=FA5 (YAH gas)
def XAn:fK:=fy u1 QAD cv10 cv7 [] Tryz.func195 XBJ MAc FA5 YAH
def GA5 (c:Ol) (d:Bh):HAm:=mk (c.bind fun a=>(d a).bind fun b=>some ⟨b,IK,0⟩)
def YAn:HAm:=GA5 EA5 QAD
def YBJ:fK:=fy0 u0 YAn cv8 cv11 [WBJ,XAn] Tryz.func140 GA5
def HA5:Ja:=fun a b c=>mk (UZ (Wy a b) (some (Ud a c)) (some false))
def Td:Ja:=HA5
def Ji:fK:=fy0 u3 Td cv12 cv1 [] Tryz.func68 HA5
def ZAn (b:Ja):UAG:=fun a=>mk (UZ (Nw a.fState) (UZ ((TT a.fRest)<64) (Uj (b a.fCount 0 1000000000) (some ((a.fCount.tmod 64) == (TT a.fRest))) (some false)) (some false)) (some false))
def Y5:UAG:=ZAn Td
def IA5:fK:=fy0 u1 Y5 cv11 cv1 [Ji] Tryz.func191 ZAn
def AAo:YAa:=fun b a=>mk (cond (RZ a (TT b)) (cond (RZ (NM a) (TT b)) (cond (RZ (FN (a+2)) (TT b)) (cond (RZ (FN (a+3)) (TT b)) (some (w32 ((w32 ((w32 ((w32 ((w32 (bt b a))*16777216))+(w32 ((w32 (bt b (NM a)))*65536))))+(w32 ((w32 (bt b (FN (a+2))))*256))))+(w32 (bt b (FN (a+3))))))) none) none) none) none)
def PAP:YAa:=AAo
def ZBJ:fK:=fy0 u2 PAP cv13 cv14 [] Tryz.func256 AAo
inductive QAP where
 |c0 (a:ByteArray) (b:Int) (d:(List Int))
def ABK:QAP→lQ
 |.c0 a b d=>(tdo Tryz.f192 464,[vs 0 a,vo 3 240,vi 4 b],[(240,.sl 96 d)])
def JA5 (b:YAa) (k:kS QAP (List Int)):Ag:=fun a=>k (.c0 a 0 [])
def NAc (a:YAa) (k:kS QAP (List Int)):kS QAP (List Int)
 |.c0 c b d=>mk (cond (Ud (FN (b+4)) (TT c)) ((a c b).bind fun e=>cond (Nb ((d.length+1)*4)) (k (.c0 c (FN (b+4)) (d++[e]))) none) (Oc d))
def ZAH:kN QAP (List Int)
 |0,_=>none
 |m+1,s=>NAc PAP (ZAH m) s
def Z5:Ag:=JA5 PAP (ZAH gas)
def BAo:fK:=fy u1 Z5 cv7 cv9 [ZBJ] Tryz.func192 ABK NAc JA5 ZAH
def KA5:Ol:=mk (Oc [1116352408,1899447441,3049323471,3921009573,961987163,1508970993,2453635748,2870763221,3624381080,310598401,607225278,1426881987,1925078388,2162078206,2614888103,3248222580,3835390401,4022224774,264347078,604807628,770255983,1249150122,1555081692,1996064986,2554220882,2821834349,2952996808,3210313671,3336571891,3584528711,113926993,338241895,666307205,773529912,1294757372,1396182291,1695183700,1986661051,2177026350,2456956037,2730485921,2820302411,3259730800,3345764771,3516065817,3600352804,4094571909,275423344,430227734,506948616,659060556,883997877,958139571,1322822218,1537002063,1747873779,1955562222,2024104815,2227730452,2361852424,2428436474,2756734187,3204031479,3329325298])
def AAI:Ol:=KA5
def LA5:fK:=fy0 u0 AAI cv8 cv9 [] Tryz.func193 KA5
def CAo:IAm:=fun b a c=>mk (cond (!(Ib a)) (cond (!(Ib a)) (some (w32 ((w32 (b.tdiv a))+(w32 ((b.tmod a)*c))))) none) none)
def OAc:IAm:=CAo
def BBK:fK:=fy0 u3 OAc cv15 cv14 [] Tryz.func297 CAo
def BAI (e:IAm):ZAa:=fun b c f a i=>mk (cond (!(Ib c)) ((e b c (FAc c)).bind fun d=>cond (!(Ib f)) ((e b f (FAc f)).bind fun g=>cond (!(Ib a)) (cond (!i) (cond (!(Ib a)) ((e b a (FAc a)).bind fun h=>some (Jo Dc (Jo Dc d g) h)) none) (some (FAD (Dh Dc d g) (b.tdiv a)))) none) none) none)
def Yw:ZAa:=BAI OAc
def CBK:fK:=fy0 u5 Yw cv16 cv14 [BBK] Tryz.func257 BAI
inductive RAP where
 |c0 (a b:(List Int)) (g:Int) (d:(List Int))
 |c1 (a b:(List Int)) (f:Int) (d e:(List Int))
 |c2 (a b:(List Int)) (f h:Int) (i j:Int) (d e:(List Int))
 |c3 (a:(List Int)) (l:Int) (e n:(List Int))
def DBK:RAP→lQ
 |.c0 a b g d=>(tdo Tryz.f194 464,[vr 0 96 a,vr 1 96 b,vo 7 496,vi 8 g],[(496,.sl 96 d)])
 |.c1 a b f d e=>(tdo Tryz.f194 2000,[vr 0 96 a,vr 1 96 b,vo 7 496,vo 9 624,vi 10 f],[(496,.sl 96 d),(624,.sl 96 e)])
 |.c2 a b f h i j d e=>(tdo Tryz.f194 8202192,[vr 0 96 a,vr 1 96 b,vo 7 496,vo 9 624,vi 10 f,(13,[.one (.int .u32 h)]),(15,[.one (.int .u32 i)]),vi 16 j],[(496,.sl 96 d),(624,.sl 96 e)])
 |.c3 a l e n=>(tdo Tryz.f194 8144,[vr 0 96 a,vo 9 624,vo 17 1136,vi 18 l],[(624,.sl 96 e),(1136,.sl 96 n)])
def DAo (b:Ag) (f:ZAa) (k:kS RAP (List Int)):VAG:=fun d e c=>(b c).bind fun a=>k (.c0 d e 16 a)
def RAD (a:Ag) (b:ZAa) (k:kS RAP (List Int)):kS RAP (List Int)
 |.c0 e h d c=>mk (cond (d<64) (cond (Yb (d - 2) c) ((b (Uc c (d - 2)) 131072 524288 1024 true).bind fun f=>cond (Yb (d - 7) c) (cond (Yb (d - 15) c) ((b (Uc c (d - 15)) 128 262144 8 true).bind fun g=>cond (Yb (d - 16) c) (cond (Nb ((c.length+1)*4)) (k (.c0 e h (NM d) (c++[w32 ((w32 ((w32 (f+(Uc c (d - 7))))+g))+(Uc c (d - 16)))]))) none) none) none) none) none) (cond (Nb ((0+e.length)*4)) (k (.c1 e h 0 c e)) none))
 |.c1 i e d f c=>mk (cond (d<64) (cond (FAP c) (cond ((Ud Ea (5:Int)) && (decide (5<(IZ c)))) (cond ((Ud Ea (6:Int)) && (decide (6<(IZ c)))) (cond ((Ud Ea (7:Int)) && (decide (7<(IZ c)))) ((b (JZ c Np) 64 2048 33554432 false).bind fun g=>cond (Qa d e) (cond (Qa d f) (cond (Xw c) (cond (JAP (IZ c)) (cond (Xw c) (cond (EAP (IZ c)) (cond (JAP (IZ c)) (cond (EAP (IZ c)) (cond (Xw c) ((b (JZ c Ea) 4 8192 4194304 false).bind fun h=>k (.c2 i e d (w32 ((w32 ((w32 ((w32 ((JZ c (7:Int))+g))+(FAD (Ap Dc (JZ c Np) (JZ c (5:Int))) (Ap Dc (w32 (4294967295 - (JZ c Np))) (JZ c (6:Int))))))+(JZ e d)))+(JZ f d))) (w32 (h+(FAD (Dh Dc (w32 (Ap Dc (JZ c Ea) (JZ c Ti))) (w32 (Ap Dc (JZ c Ea) (JZ c (2:Int))))) (Ap Dc (JZ c Ti) (JZ c (2:Int)))))) 7 f c)) none) none) none) none) none) none) none) none) none) none) none) none) none) (k (.c3 i 0 c [])))
 |.c2 f g h e i d j c=>mk (cond (Yl d) (cond (Yb (d - 1) c) (cond (Qa d c) (k (.c2 f g h e i (Um d) j (c.set (GZ d) (Uc c (d - 1))))) none) none) (cond (FAP c) (cond (FAP c) (cond (Xw (c.set (GZ Np) (w32 ((JZ c Np)+e)))) (k (.c1 f g (NM h) j ((c.set (GZ Np) (w32 ((JZ c Np)+e))).set (GZ Ea) (w32 (e+i))))) none) none) none))
 |.c3 d c e f=>mk (cond (c<8) (cond (Qa c d) (cond (Qa c e) (cond (Nb ((f.length+1)*4)) (k (.c3 d (NM c) e (f++[w32 ((JZ d c)+(JZ e c))]))) none) none) none) (Oc f))
def Ar:kN RAP (List Int)
 |0,_=>none
 |m+1,s=>RAD Z5 Yw (Ar m) s
def SAD:VAG:=DAo Z5 Yw (Ar gas)
def MA5:fK:=fy u3 SAD cv17 cv9 [BAo,CBK] Tryz.func194 DBK RAD DAo Ar
inductive SAP where
 |c0 (a b:ByteArray) (d:Int) (e f:SHasher) (g h:(List Int))
def EBK:SAP→lQ
 |.c0 d e f a b g h=>(tdo Tryz.f139 4064,[vs 1 d,vp 2 128,vp 4 256,vo 5 368,vo 6 432,vs 7 e,vi 8 f],[(128,.var [.str a.fState,.str a.fRest,li a.fCount]),(256,.var [.str b.fState,.str b.fRest,li b.fCount]),(368,.sl 96 g),(432,.sl 96 h)])
def EAo (f:UAG) (g:Ag) (h:Ol) (i:VAG) (j:Bh) (k:kS SAP SHasher):JAm:=fun a b=>mk ((f a).bind fun c=>cond (!c) (some a) (cond ((Va a.fCount (TT b)) > 1000000000) (some a) ((g a.fState).bind fun d=>h.bind fun e=>cond (FZ a.fRest b) (k (.c0 b (a.fRest++b) 0 a ⟨IK,IK,0⟩ d e)) none)))
def PAc (a:UAG) (b:Ag) (c:Ol) (d:VAG) (e:Bh) (k:kS SAP SHasher):kS SAP SHasher
 |.c0 l g f m o i j=>mk (cond (Ud (FN (f+64)) (TT g)) (cond (Tj f (FN (f+64)) (TT g)) ((d i j (Ii g f (f+64))).bind fun h=>k (.c0 l g (FN (f+64)) m o h j)) none) ((e i).bind fun n=>cond (Sj f (TT g)) (some ⟨n,Fp g f,Va m.fCount (TT l)⟩) none))
def CAI:kN SAP SHasher
 |0,_=>none
 |m+1,s=>PAc Y5 Z5 AAI SAD QAD (CAI m) s
def QAc:JAm:=EAo Y5 Z5 AAI SAD QAD (CAI gas)
def FBK:fK:=fy u2 QAc cv18 cv11 [IA5,BAo,LA5,MA5,XAn] Tryz.func139 EBK PAc EAo CAI
inductive TAP where
 |c0 (b:SHasher) (a:(List Int))
 |c1 (d e:Int) (b:SHasher) (a:(List Int))
 |c2 (d e:Int) (f g:Int) (b:SHasher) (a:(List Int))
 |c3 (h:Int) (a i j:(List Int))
def GBK:TAP→lQ
 |.c0 a b=>(tdo Tryz.f138 992,[vp 1 64,vo 3 240],[(64,.var [.str a.fState,.str a.fRest,li a.fCount]),(240,.sl 5 b)])
 |.c1 d e a b=>(tdo Tryz.f138 8144,[vp 1 64,vo 3 240,vi 4 d,vi 5 e],[(64,.var [.str a.fState,.str a.fRest,li a.fCount]),(240,.sl 5 b)])
 |.c2 d e f g a b=>(tdo Tryz.f138 2085456,[vp 1 64,vo 3 240,vi 4 d,vi 5 e,vi 6 f,vi 7 g],[(64,.var [.str a.fState,.str a.fRest,li a.fCount]),(240,.sl 5 b)])
 |.c3 h b i j=>(tdo Tryz.f138 65488,[vo 3 240,vo 8 560,vo 9 624,vi 10 h],[(240,.sl 5 b),(560,.sl 96 i),(624,.sl 96 j)])
def FAo (c:UAG) (d:Ag) (e:Ol) (f:VAG) (g:Bh) (k:kS TAP ByteArray):KAm:=fun a=>mk ((c a).bind fun b=>cond (!b) Gv (cond (Qq a.fRest) (cond (Qm (Wj a.fRest)) (k (.c0 a ((Wj a.fRest)++[(128:Int)]))) none) none))
def Xy (a:UAG) (b:Ag) (c:Ol) (d:VAG) (e:Bh) (k:kS TAP ByteArray):kS TAP ByteArray
 |.c0 g f=>mk (cond (((IZ f).tmod 64) != 56) (cond (Qm f) (k (.c0 g (f++[Ea]))) none) (k (.c1 (FN (8*g.fCount)) 7 g f)))
 |.c1 g f h i=>mk (cond (Gt f) (k (.c2 g f g 0 h i)) ((b h.fState).bind fun j=>c.bind fun l=>k (.c3 0 i j l)))
 |.c2 i f j h l g=>mk (cond (MZ h f) (k (.c2 i f (FN (j.tdiv 256)) (NM h) l g)) (cond (Qm g) (k (.c1 i (Um f) l (g++[w8 (j.tmod 256)]))) none))
 |.c3 f g i j=>mk (cond (MZ f (IZ g)) (cond (Tj f (FN (f+64)) (IZ g)) ((d i j (ofBytes ((g.drop (GZ f)).take ((Fb (f+64)) - (GZ f))))).bind fun h=>k (.c3 (FN (f+64)) g h j)) none) (Pg (e i)))
def Zl:kN TAP ByteArray
 |0,_=>none
 |m+1,s=>Xy Y5 Z5 AAI SAD QAD (Zl m) s
def RAc:KAm:=FAo Y5 Z5 AAI SAD QAD (Zl gas)
def HBK:fK:=fy u1 RAc cv11 cv7 [IA5,BAo,LA5,MA5,XAn] Tryz.func138 GBK Xy FAo Zl
def GAo (c:HAm) (d:JAm) (f:KAm):NZ:=fun e=>mk (c.bind fun a=>(d a e).bind fun b=>Pg (f b))
def Rh:NZ:=GAo YAn QAc RAc
def Hr:fK:=fy0 u1 Rh cv7 cv7 [YBJ,FBK,HBK] Tryz.func78 GAo
def HAo (c:NZ) (d:Z8):Qs:=mk ((c IK).bind fun a=>(d 32 0).bind fun b=>some ⟨a,0,[],0,b,0⟩)
def D6:Qs:=HAo Rh PAD
def UAP:fK:=fy0 u0 D6 cv8 cv19 [Hr,CA5] Tryz.func70 HAo
inductive VAP where
 |c0 (a:Int) (b:(List Int))
def IBK:VAP→lQ
 |.c0 a b=>(tdo Tryz.f101 224,[vi 0 a,vo 3 240],[(240,.sl 5 b)])
def NA5 (k:kS VAP ByteArray):LZ:=fun a=>k (.c0 a [])
def SAc (k:kS VAP ByteArray):kS VAP ByteArray
 |.c0 a b=>mk (cond (a > 127) (cond (Qm b) (k (.c0 (FN (a.tdiv 128)) (b++[w8 (FN ((a.tmod 128)+128))]))) none) (Nc (Qm b) (Bl (b++[w8 a]))))
def DAI:kN VAP ByteArray
 |0,_=>none
 |m+1,s=>SAc (DAI m) s
def Jt:LZ:=NA5 (DAI gas)
def KAA:fK:=fy u1 Jt cv20 cv7 [] Tryz.func101 IBK SAc NA5 DAI
def IAo (b:Ja):Yn:=fun a=>mk ((b a.fId 1 1000).bind fun c=>UZ (!c) (some false) ((b a.fKind 1 3).bind fun d=>UZ (!d) (some false) ((b a.fNext 0 16).bind fun e=>UZ (!e) (some false) (UZ (a.fKind != 2) (UZ (a.fNext != 0) (some false) (UZ (Ld a) (some false) (UZ (a.fKind != 1) (UZ (Ad a) (some false) (UAO a)) (UAO a)))) (UZ (a.fKind != 1) (UZ (Ad a) (some false) (UAO a)) (UAO a))))))
def F6:Yn:=IAo Td
def WAP:fK:=fy0 u1 F6 cv21 cv1 [Ji] Tryz.func99 IAo
def OA5:LAm:=fun a b=>cond a (some b) (some 0)
def JAo:LAm:=OA5
def JBK:fK:=fy0 u2 JAo cv22 cv20 [] Tryz.func100 OA5
def KAo:LZ:=fun a=>mk (cond (Qh (a.tmod 256)) (Bl [w8 (FN ((a.tmod 256)+256))]) (Bl [w8 (a.tmod 256)]))
def Ij:LZ:=KAo
def G6:fK:=fy0 u1 Ij cv20 cv7 [] Tryz.func102 KAo
def LAo (c:LZ):NZ:=fun b=>mk ((c (TT b)).bind fun a=>Nc (FZ a b) (some (a++b)))
def TAc:NZ:=LAo Jt
def KBK:fK:=fy0 u1 TAc cv7 cv7 [KAA] Tryz.func103 LAo
def MAo (p:Yn) (e:LAm) (n o:LZ) (q:NZ):Uu:=fun a=>mk ((p a).bind fun h=>cond (!h) (EZ (IK,false)) ((e (Qe a) 1).bind fun i=>(e (Bd a) 2).bind fun j=>(e (Ld a) 4).bind fun l=>(e (Ad a) 8).bind fun m=>(n a.fId).bind fun b=>(o a.fKind).bind fun c=>Bc (FZ b c) ((o (Va (Va (Va i j) l) m)).bind fun d=>Bc (Bf b c d) ((q (Lc a)).bind fun f=>Bc (Bf (b++c) d f) ((n a.fNext).bind fun g=>Bc (Bf ((b++c)++d) f g) (EZ ((((b++c)++d)++f)++g,true)))))))
def LAA:Uu:=MAo F6 JAo Jt Ij TAc
def UAc:fK:=fy0 u1 LAA cv21 cv23 [WAP,JBK,KAA,G6,KBK] Tryz.func43 MAo
def NAo (f:Ja) (g:LZ) (i:Uu):Ew:=fun a=>mk (cond (a.fKind == 1) (cond (Nw a.fText) (cond (Ib a.fNum) (cond ((Ib (OZ a).fId) && ((Ib (OZ a).fKind) && (((Qe (OZ a)) == false) && (((Bd (OZ a)) == false) && (((Ld (OZ a)) == false) && (((Ad (OZ a)) == false) && ((LAD a) && ((Ib (OZ a).fNext) && true)))))))) (Bc (FZ (Qb ⟨#[1]⟩) a.fText) (EZ ((Qb ⟨#[1]⟩)++a.fText,true))) (EZ (IK,false))) (EZ (IK,false))) (EZ (IK,false))) (cond (a.fKind == 2) (cond (Jc a.fText IK) (cond ((Ib (OZ a).fId) && ((Ib (OZ a).fKind) && (((Qe (OZ a)) == false) && (((Bd (OZ a)) == false) && (((Ld (OZ a)) == false) && (((Ad (OZ a)) == false) && ((LAD a) && ((Ib (OZ a).fNext) && true)))))))) ((f a.fNum 0 3).bind fun e=>cond e ((g a.fNum).bind fun c=>Bc (FZ (Qb ⟨#[2]⟩) c) (EZ ((Qb ⟨#[2]⟩)++c,true))) (EZ (IK,false))) (EZ (IK,false))) (EZ (IK,false))) (cond (a.fKind == 3) ((i (OZ a)).bind fun b=>cond b.2 (cond (Jc a.fText IK) (cond (Ib a.fNum) (Bc (FZ (Qb ⟨#[3]⟩) b.1) (EZ ((Qb ⟨#[3]⟩)++b.1,true))) (EZ (IK,false))) (EZ (IK,false))) (EZ (IK,false))) (cond (a.fKind == 4) (cond (Jc a.fText IK) (cond ((Ib (OZ a).fId) && ((Ib (OZ a).fKind) && (((Qe (OZ a)) == false) && (((Bd (OZ a)) == false) && (((Ld (OZ a)) == false) && (((Ad (OZ a)) == false) && ((LAD a) && ((Ib (OZ a).fNext) && true)))))))) ((f a.fNum 1 1000).bind fun h=>cond h ((g a.fNum).bind fun d=>Bc (FZ (Qb ⟨#[4]⟩) d) (EZ ((Qb ⟨#[4]⟩)++d,true))) (EZ (IK,false))) (EZ (IK,false))) (EZ (IK,false))) (EZ (IK,false))))))
def TAD:Ew:=NAo Td Jt LAA
def OAo:fK:=fy0 u1 TAD cv24 cv23 [Ji,KAA,UAc] Tryz.func251 NAo
inductive XAP where
 |c0 (a:Int) (b:SBook)
def LBK:XAP→lQ
 |.c0 b a=>(tdo Tryz.f72 464,[vp 1 64,vi 3 b],[(64,.var [.str a.fWord,li a.fTries,.rsl 45 a.fThings,li a.fLast,.str a.fChain,li a.fCount])])
def PAo (b:Ja) (f:Yn) (k:kS XAP Bool):Gw:=fun a=>mk (cond ((TT a.fWord) != 32) (some false) (cond ((TT (Ub a)) != 32) (some false) ((b (Oe a) 0 3).bind fun c=>cond (!c) (some false) (cond ((Jd a) > 8) (some false) ((b a.fLast 0 1000).bind fun d=>cond (!d) (some false) ((b a.fCount 0 10000).bind fun e=>cond (!e) (some false) (k (.c0 0 a))))))))
def VAc (a:Ja) (b:Yn) (k:kS XAP Bool):kS XAP Bool
 |.c0 c d=>mk (cond (MZ c (Jd d)) (cond (RZ c (Jd d)) ((b (Eb (PZ d) c ⟨0,0,false,false,false,false,IK,0⟩)).bind fun e=>cond (!e) (some false) (cond (RZ c (Jd d)) (cond ((Eb (PZ d) c ⟨0,0,false,false,false,false,IK,0⟩).fId > d.fLast) (some false) (cond (Yl c) (cond (RZ (Um c) (Jd d)) (cond (RZ c (Jd d)) (cond (Wy (Eb (PZ d) (Um c) ⟨0,0,false,false,false,false,IK,0⟩).fId (Eb (PZ d) c ⟨0,0,false,false,false,false,IK,0⟩).fId) (some false) (k (.c0 (NM c) d))) none) none) (k (.c0 (NM c) d)))) none)) none) (some true))
def MAA:kN XAP Bool
 |0,_=>none
 |m+1,s=>VAc Td F6 (MAA m) s
def UAD:Gw:=PAo Td F6 (MAA gas)
def PA5:fK:=fy u1 UAD cv25 cv1 [Ji,WAP] Tryz.func72 LBK VAc PAo MAA
def QAo:Vu:=fun a=>mk (cond (Nb ((0+(PZ a).length)*48)) (some ⟨a.fWord,Oe a,PZ a,a.fLast,Ub a,a.fCount⟩) none)
def NAA:Vu:=QAo
def RAo:fK:=fy0 u1 NAA cv25 cv19 [] Tryz.func160 QAo
inductive YAP where
 |c0 (a b:Int) (d:SBook) (e:SThing)
def MBK:YAP→lQ
 |.c0 d e b a=>(tdo Tryz.f82 208,[vi 1 d,vp 2 128,vp 4 256,vi 6 e],[(128,.var [.str b.fWord,li b.fTries,.rsl 45 b.fThings,li b.fLast,.str b.fChain,li b.fCount]),(256,.var [li a.fId,li a.fKind,.bool a.fHidden,.bool a.fFixed,.bool a.fSigns,.bool a.fWraps,.str a.fValue,li a.fNext])])
def QA5 (k:kS YAP (SThing×Bool)):Zn:=fun b a=>mk (k (.c0 a 0 b ⟨0,0,false,false,false,false,IK,0⟩))
def WAc (k:kS YAP (SThing×Bool)):kS YAP (SThing×Bool)
 |.c0 c a b d=>mk (cond (MZ a (Jd b)) (cond (RZ a (Jd b)) (cond ((Eb (PZ b) a ⟨0,0,false,false,false,false,IK,0⟩).fId == c) (cond (RZ a (Jd b)) (some (Eb (PZ b) a ⟨0,0,false,false,false,false,IK,0⟩,true)) none) (k (.c0 c (NM a) b d))) none) (some (⟨0,0,false,false,false,false,IK,0⟩,false)))
def VAD:kN YAP (SThing×Bool)
 |0,_=>none
 |m+1,s=>WAc (VAD m) s
def Yy:Zn:=QA5 (VAD gas)
def ZAP:fK:=fy u2 Yy cv26 cv27 [] Tryz.func82 MBK WAc QA5 VAD
def SAo:UAC:=fun a b=>mk (UZ (a.fKind == b.fKind) (UZ (Jc (Lc a) (Lc b)) (UZ ((Ld a) == (Ld b)) (UZ ((Ad a) == (Ad b)) (UZ (Ud a.fNext b.fNext) (UZ (Qe b) (UZ (Bd b) (some true) (some (!(Bd a)))) (UZ (!(Qe a)) (UZ (Bd b) (some true) (some (!(Bd a)))) (some false))) (some false)) (some false)) (some false)) (some false)) (some false))
def AAQ:UAC:=SAo
def NBK:fK:=fy0 u2 AAQ cv28 cv1 [] Tryz.func254 SAo
inductive BAQ where
 |c0 (a:(List SThing)) (e:Int) (b:SThing) (d:(List SThing))
 |c1 (a:(List SThing)) (f:Int) (b:SThing) (d:(List SThing))
def OBK:BAQ→lQ
 |.c0 b e a d=>(tdo Tryz.f255 464,[vr 0 45 b,vp 3 192,vo 5 368,vi 6 e],[(192,.var [li a.fId,li a.fKind,.bool a.fHidden,.bool a.fFixed,.bool a.fSigns,.bool a.fWraps,.str a.fValue,li a.fNext]),(368,.sl 45 d)])
 |.c1 b f a d=>(tdo Tryz.f255 2000,[vr 0 45 b,vp 3 192,vo 5 368,vi 7 f],[(192,.var [li a.fId,li a.fKind,.bool a.fHidden,.bool a.fFixed,.bool a.fSigns,.bool a.fWraps,.str a.fValue,li a.fNext]),(368,.sl 45 d)])
def TAo (k:kS BAQ (List SThing)):AAb:=fun a b=>k (.c0 a 0 b [])
def EAI (k:kS BAQ (List SThing)):kS BAQ (List SThing)
 |.c0 a b c d=>mk (cond (Gh b a.length) (cond (Ba b a.length) (cond (MZ (Eb a b ⟨0,0,false,false,false,false,IK,0⟩).fId c.fId) (cond (Ba b a.length) (cond (Nb ((d.length+1)*48)) (k (.c0 a (NM b) c (d++[Eb a b ⟨0,0,false,false,false,false,IK,0⟩]))) none) none) (k (.c0 a (NM b) c d))) none) (cond (Nb ((d.length+1)*48)) (k (.c1 a 0 c (d++[c]))) none))
 |.c1 b a d c=>mk (cond (Gh a b.length) (cond (Ba a b.length) (cond ((Eb b a ⟨0,0,false,false,false,false,IK,0⟩).fId > d.fId) (cond (Ba a b.length) (cond (Nb ((c.length+1)*48)) (k (.c1 b (NM a) d (c++[Eb b a ⟨0,0,false,false,false,false,IK,0⟩]))) none) none) (k (.c1 b (NM a) d c))) none) (some c))
def Zy:kN BAQ (List SThing)
 |0,_=>none
 |m+1,s=>EAI (Zy m) s
def CAQ:AAb:=TAo (Zy gas)
def PBK:fK:=fy u2 CAQ cv29 cv30 [] Tryz.func255 OBK EAI TAo Zy
inductive DAQ where
 |c0 (a:ByteArray) (b:Int) (d:SBook) (e:SRec) (f:ByteArray) (g h:Int) (i:ByteArray) (j:Int) (l:ByteArray) (n o:Int) (p:ByteArray) (q:Int) (t u v:(List SThing))
def QBK:DAQ→lQ
 |.c0 d e b a f g h i j l n o p q t u v=>(tdo Tryz.f190 32898512,[vp 2 128,vp 3 192,vp 4 256,vs 6 d,vp 8 512,vo 13 880,vi 14 e],[(128,.var [.str b.fWord,li b.fTries,.rsl 45 b.fThings,li b.fLast,.str b.fChain,li b.fCount]),(192,.var [li a.fKind,.str a.fText,li a.fNum,li a.fThing.fId,li a.fThing.fKind,.bool a.fThing.fHidden,.bool a.fThing.fFixed,.bool a.fThing.fSigns,.bool a.fThing.fWraps,.str a.fThing.fValue,li a.fThing.fNext]),(256,.var [.str f,li g,.own 1016386,li h,.str i,li j]),(512,.var [.str l,li n,.own 1032770,li o,.str p,li q]),(880,.sl 45 t),(1016386,.sl 45 u),(1032770,.sl 45 v)])
def UAo (S:Ew) (e:Gw) (T:Vu) (F:Zn) (U:UAC) (h:AAb) (f:NZ) (k:kS DAQ (SBook×Bool)):Hw:=fun a c=>mk ((S c).bind fun d=>(e a).bind fun C=>cond (!C) (some (Yc,false)) (cond (!d.2) (some (Yc,false)) (cond (a.fCount == 10000) (some (Yc,false)) ((T a).bind fun b=>cond (c.fKind == 1) (cond (Vm a d) ((f ((Ub a)++d.1)).bind fun i=>(e ⟨c.fText,0,PZ b,b.fLast,i,Ho a⟩).bind fun D=>Et D (Yc,false) (⟨c.fText,0,PZ b,b.fLast,i,Ho a⟩,true)) none) (cond (c.fKind == 2) (cond (Vm a d) ((f ((Ub a)++d.1)).bind fun j=>(e ⟨b.fWord,c.fNum,PZ b,b.fLast,j,Ho a⟩).bind fun E=>Et E (Yc,false) (⟨b.fWord,c.fNum,PZ b,b.fLast,j,Ho a⟩,true)) none) (cond (c.fKind == 3) ((F a (OZ c).fId).bind fun g=>cond g.2 ((U g.1 (OZ c)).bind fun G=>cond (!G) (some (Yc,false)) (cond (!g.2) (cond ((OZ c).fId != (NM a.fLast)) (some (Yc,false)) (cond ((Jd a) == 8) (some (Yc,false)) (cond (!g.2) ((h (PZ a) (OZ c)).bind fun l=>cond (Vm a d) ((f ((Ub a)++d.1)).bind fun m=>(e (I5 b l c m a)).bind fun H=>Et H (Yc,false) (I5 b l c m a,true)) none) ((h (PZ a) (OZ c)).bind fun n=>cond (Vm a d) ((f ((Ub a)++d.1)).bind fun o=>(e (O5 b n o a)).bind fun I=>Et I (Yc,false) (O5 b n o a,true)) none)))) (cond (!g.2) ((h (PZ a) (OZ c)).bind fun p=>cond (Vm a d) ((f ((Ub a)++d.1)).bind fun q=>(e (I5 b p c q a)).bind fun J=>Et J (Yc,false) (I5 b p c q a,true)) none) ((h (PZ a) (OZ c)).bind fun r=>cond (Vm a d) ((f ((Ub a)++d.1)).bind fun s=>(e (O5 b r s a)).bind fun L=>Et L (Yc,false) (O5 b r s a,true)) none)))) (cond (!g.2) (cond ((OZ c).fId != (NM a.fLast)) (some (Yc,false)) (cond ((Jd a) == 8) (some (Yc,false)) (cond (!g.2) ((h (PZ a) (OZ c)).bind fun t=>cond (Vm a d) ((f ((Ub a)++d.1)).bind fun u=>(e (I5 b t c u a)).bind fun M=>Et M (Yc,false) (I5 b t c u a,true)) none) ((h (PZ a) (OZ c)).bind fun v=>cond (Vm a d) ((f ((Ub a)++d.1)).bind fun w=>(e (O5 b v w a)).bind fun N=>Et N (Yc,false) (O5 b v w a,true)) none)))) (cond (!g.2) ((h (PZ a) (OZ c)).bind fun x=>cond (Vm a d) ((f ((Ub a)++d.1)).bind fun y=>(e (I5 b x c y a)).bind fun O=>Et O (Yc,false) (I5 b x c y a,true)) none) ((h (PZ a) (OZ c)).bind fun z=>cond (Vm a d) ((f ((Ub a)++d.1)).bind fun A=>(e (O5 b z A a)).bind fun P=>Et P (Yc,false) (O5 b z A a,true)) none)))) (cond (c.fKind == 4) ((F a c.fNum).bind fun Q=>cond (!Q.2) (some (Yc,false)) (k (.c0 d.1 0 a c IK 0 0 IK 0 b.fWord (Oe b) b.fLast (Ub b) b.fCount [] [] (PZ b)))) (cond (Vm a d) ((f ((Ub a)++d.1)).bind fun B=>(e ⟨b.fWord,Oe b,PZ b,b.fLast,B,Ho a⟩).bind fun R=>Et R (Yc,false) (⟨b.fWord,Oe b,PZ b,b.fLast,B,Ho a⟩,true)) none))))))))
def XAc (a:Ew) (b:Gw) (c:Vu) (d:Zn) (e:UAC) (f:AAb) (g:NZ) (k:kS DAQ (SBook×Bool)):kS DAQ (SBook×Bool)
 |.c0 l i h p r s t u v m n o w x j y z=>mk (cond (MZ i (Jd h)) (cond (RZ i (Jd h)) (cond ((Eb (PZ h) i ⟨0,0,false,false,false,false,IK,0⟩).fId != p.fNum) (cond (RZ i (Jd h)) (cond (Nb ((j.length+1)*48)) (k (.c0 l (NM i) h p r s t u v m n o w x (j++[Eb (PZ h) i ⟨0,0,false,false,false,false,IK,0⟩]) y z)) none) none) (k (.c0 l (NM i) h p r s t u v m n o w x j y z))) none) (cond (FZ (Ub h) l) ((g ((Ub h)++l)).bind fun q=>(b ⟨m,n,j,o,q,Ho h⟩).bind fun A=>Et A (Yc,false) (⟨m,n,j,o,q,Ho h⟩,true)) none))
def FAI:kN DAQ (SBook×Bool)
 |0,_=>none
 |m+1,s=>XAc TAD UAD NAA Yy AAQ CAQ Rh (FAI m) s
def Az:Hw:=UAo TAD UAD NAA Yy AAQ CAQ Rh (FAI gas)
def VAo:fK:=fy u2 Az cv31 cv32 [OAo,PA5,RAo,ZAP,NBK,PBK,Hr] Tryz.func190 QBK XAc UAo FAI
inductive EAQ where
 |c0 (a:ByteArray) (b d:Int) (e:(List Int))
def RBK:EAQ→lQ
 |.c0 a b d e=>(tdo Tryz.f278 976,[vs 0 a,(1,[.one (.int .u8 b)]),vo 5 368,vi 6 d],[(368,.sl 5 e)])
def WAo (d:NZ) (k:kS EAQ ByteArray):Jy:=fun a c=>mk (cond ((TT a) > 64) ((d a).bind fun b=>k (.c0 b c 0 (Vs (64:Int)))) (k (.c0 a c 0 (Vs (64:Int)))))
def YAc (a:NZ) (k:kS EAQ ByteArray):kS EAQ ByteArray
 |.c0 d e b c=>mk (cond (b<64) (cond (MZ b (TT d)) (cond (RZ b (TT d)) (cond (Qa b c) (cond (Qa b (c.set (GZ b) (bt d b))) (cond (Qa b (c.set (GZ b) (bt d b))) (k (.c0 d e (NM b) ((c.set (GZ b) (bt d b)).set (GZ b) (w8 (Dh Dp (JZ (c.set (GZ b) (bt d b)) b) e))))) none) none) none) none) (cond (Qa b c) (cond (Qa b c) (k (.c0 d e (NM b) (c.set (GZ b) (w8 (Dh Dp (JZ c b) e))))) none) none)) (Bl c))
def WAD:kN EAQ ByteArray
 |0,_=>none
 |m+1,s=>YAc Rh (WAD m) s
def ZAc:Jy:=WAo Rh (WAD gas)
def SBK:fK:=fy u2 ZAc cv33 cv7 [Hr] Tryz.func278 RBK YAc WAo WAD
def XAo (d:Jy) (g:NZ):Ql:=fun e f=>mk ((d e 92).bind fun a=>(d e 54).bind fun b=>Nc (FZ b f) ((g (b++f)).bind fun c=>Nc (FZ a c) (Pg (g (a++c)))))
def GAI:Ql:=XAo ZAc Rh
def RA5:fK:=fy0 u2 GAI cv34 cv7 [SBK,Hr] Tryz.func220 XAo
inductive FAQ where
 |c0 (a:ByteArray) (b d e:Int) (f:(List Int))
def TBK:FAQ→lQ
 |.c0 a b d e f=>(tdo Tryz.f161 976,[vs 0 a,vi 1 b,vi 2 d,vo 8 560,vi 9 e],[(560,.sl 5 f)])
def YAo (b:Ja) (g h:LZ) (i:Ql) (k:kS FAQ (ByteArray×Bool)):C9:=fun f c e=>mk ((b c 0 1000000000).bind fun a=>cond (!a) (EZ (IK,false)) ((b e 0 8000).bind fun d=>cond (!d) (EZ (IK,false)) (k (.c0 f c e 0 []))))
def AAd (a:Ja) (b c:LZ) (d:Ql) (k:kS FAQ (ByteArray×Bool)):kS FAQ (ByteArray×Bool)
 |.c0 m j f l e=>mk (cond (MZ (IZ e) f) ((b j).bind fun g=>cond (FZ IAD g) ((c l).bind fun i=>cond (Bf IAD g i) ((d m ((IAD++g)++i)).bind fun h=>cond (Qq h) (cond (SAH e h) (k (.c0 m j f (NM l) (e++(Wj h)))) none) none) none) none) (Bc (Sj f (IZ e)) (EZ (ofBytes ((e.drop 0).take ((GZ f) - 0)),true))))
def HAI:kN FAQ (ByteArray×Bool)
 |0,_=>none
 |m+1,s=>AAd Td Jt Ij GAI (HAI m) s
def GAQ:C9:=YAo Td Jt Ij GAI (HAI gas)
def SA5:fK:=fy u3 GAQ cv35 cv23 [Ji,KAA,G6,RA5] Tryz.func161 TBK AAd YAo HAI
inductive HAQ where
 |c0 (a:ByteArray) (b:Int) (d:(List Int))
def UBK:HAQ→lQ
 |.c0 a b d=>(tdo Tryz.f162 464,[vs 1 a,vo 5 368,vi 6 b],[(368,.sl 5 d)])
def ZAo (k:kS HAQ ByteArray):Ql:=fun a b=>mk (cond (Qq a) (k (.c0 b 0 (Wj a))) none)
def BAd (k:kS HAQ ByteArray):kS HAQ ByteArray
 |.c0 c a b=>mk (cond (MZ a (IZ b)) (cond (Qa a b) (cond (RZ a (TT c)) (cond (Qa a b) (k (.c0 c (NM a) (b.set (GZ a) (w8 (Dh Dp (JZ b a) (bt c a)))))) none) none) none) (Bl b))
def IAI:kN HAQ ByteArray
 |0,_=>none
 |m+1,s=>BAd (IAI m) s
def IAQ:Ql:=ZAo (IAI gas)
def TA5:fK:=fy u2 IAQ cv34 cv7 [] Tryz.func162 UBK BAd ZAo IAI
def AAp (d:LZ) (f:Ql):D9:=fun g e c=>mk ((d e).bind fun a=>Nc (FZ Gp a) (Nc (Bf Gp a c) ((f g ((Gp++a)++c)).bind fun b=>Nc ((Ud Ea (16:Int)) && (decide (16≤(TT b)))) (some (Rq b (16:Int))))))
def JAQ:D9:=AAp Jt GAI
def UA5:fK:=fy0 u3 JAQ cv36 cv7 [KAA,RA5] Tryz.func163 AAp
def BAp (g:C9) (h:Ql) (i:D9):Rl:=fun d e f=>mk ((g d e (TT f)).bind fun b=>cond (!b.2) (EZ (IK,false)) ((h f b.1).bind fun a=>(i d e a).bind fun c=>Bc (FZ a c) (EZ (a++c,true))))
def JAI:Rl:=BAp GAQ IAQ JAQ
def VA5:fK:=fy0 u3 JAI cv36 cv23 [SA5,TA5,UA5] Tryz.func105 BAp
inductive KAQ where
 |c0 (a:Int) (b:ByteArray) (d:Int)
 |c1 (a:Int) (b:ByteArray) (d e:Int)
def VBK:KAQ→lQ
 |.c0 a b d=>(tdo Tryz.f296 208,[(0,[.one (.int .u32 a)]),vs 1 b,vi 5 d],[])
 |.c1 a b d e=>(tdo Tryz.f296 26928,[(0,[.one (.int .u32 a)]),vs 1 b,vi 5 d,vi 6 e],[])
def CAp (k:kS KAQ Int):WAG:=fun a b=>k (.c0 a b 0)
def KAI (k:kS KAQ Int):kS KAQ Int
 |.c0 c b a=>mk (cond (MZ a (TT b)) (cond (RZ a (TT b)) (k (.c1 (Jo Dc c (w32 (bt b a))) b a 0)) none) (some c))
 |.c1 a c d b=>mk (cond (b<8) (cond (Io a) (k (.c1 (w32 ((BitVec.toNat ((BitVec.ofInt Dc (w32 (a.tdiv 2))) ^^^ (BitVec.ofInt Dc 3558460437)):Nat):Int)) c d (NM b))) (k (.c1 (w32 (a.tdiv 2)) c d (NM b)))) (k (.c0 a c (NM d))))
def Bz:kN KAQ Int
 |0,_=>none
 |m+1,s=>KAI (Bz m) s
def CAd:WAG:=CAp (Bz gas)
def WBK:fK:=fy u2 CAd cv37 cv14 [] Tryz.func296 VBK KAI CAp Bz
def DAp (b:WAG):F9:=fun c=>(b 4294967295 c).bind fun a=>some a
def DAd:F9:=DAp CAd
def XBK:fK:=fy0 u1 DAd cv7 cv14 [WBK] Tryz.func253 DAp
def EAp:LZ:=fun a=>mk (Bl [w8 (Uy a (24:Int)),w8 (Uy a (16:Int)),w8 (Uy a (8:Int)),w8 a])
def EAd:LZ:=EAp
def YBK:fK:=fy0 u1 EAd cv14 cv7 [] Tryz.func252 EAp
def FAp (f:Ja) (g:LZ) (h:F9) (i:LZ):Iw:=fun a=>mk ((f (TT a) 1 9000).bind fun d=>cond (!d) (EZ (IK,false)) ((g (TT a)).bind fun b=>(h a).bind fun e=>(i e).bind fun c=>Bc (FZ b c) (Bc (Bf b c a) (EZ ((b++c)++a,true)))))
def OAA:Iw:=FAp Td Jt DAd EAd
def GAp:fK:=fy0 u1 OAA cv7 cv23 [Ji,KAA,XBK,YBK] Tryz.func189 FAp
def HAp (f:Ew) (h:Ja) (i:Rl) (l:Iw):KAO:=fun j c g=>mk ((f g).bind fun a=>cond (!a.2) (some ([],false)) ((h c 0 10000).bind fun b=>cond (!b) (some ([],false)) ((i j (NM c) a.1).bind fun d=>(l d.1).bind fun e=>some ([⟨1,J5,e.1,IK⟩,⟨2,J5,IK,IK⟩],true))))
def LAI:KAO:=HAp TAD Td JAI OAA
def WA5:fK:=fy0 u3 LAI cv38 cv39 [OAo,Ji,VA5,GAp] Tryz.func273 HAp
def IAp (a:Ja):LAO:=fun b=>mk (V5 (a (TT b) 1 8))
def MAI:LAO:=IAp Td
def XA5:fK:=fy0 u1 MAI cv7 cv1 [Ji] Tryz.func132 IAp
inductive LAQ where
 |c0 (a:Int) (b:SDisk)
def ZBK:LAQ→lQ
 |.c0 a b=>(tdo Tryz.f67 464,[vp 1 64,vi 3 a],[(64,.var [.rsl 116 b.fFiles])])
def JAp (b:LAO) (c:Ja) (k:kS LAQ Bool):Pq:=fun a=>mk (cond ((Af a:Int) > 30) (some false) (k (.c0 0 a)))
def FAd (a:LAO) (b:Ja) (k:kS LAQ Bool):kS LAQ Bool
 |.c0 c d=>mk (cond (Gh c (Af d)) (cond (Ba c (Af d)) ((a (Vj d c)).bind fun e=>cond (!e) (some false) (cond ((Wi d c) > 20000) (some false) ((b (Si d c) 0 (Wi d c)).bind fun f=>cond (!f) (some false) (cond (Yl c) (cond (RZ (Um c) (Af d:Int)) (cond (!(Op.bytesLess (Zo (d.fFiles.getD (Fb (c - 1)) P5).fName) (Zo (Vj d c)))) (some false) (k (.c0 (NM c) d))) none) (k (.c0 (NM c) d)))))) none) (some true))
def NAI:kN LAQ Bool
 |0,_=>none
 |m+1,s=>FAd MAI Td (NAI m) s
def H6:Pq:=JAp MAI Td (NAI gas)
def GAd:fK:=fy u1 H6 cv40 cv1 [XA5,Ji] Tryz.func67 ZBK FAd JAp NAI
inductive MAQ where
 |c0 (a:ByteArray) (b:Int) (d:SDisk)
def ABL:MAQ→lQ
 |.c0 a b d=>(tdo Tryz.f136 208,[vs 1 a,vp 2 128,vi 5 b],[(128,.var [.rsl 116 d.fFiles])])
def KAp (k:kS MAQ Int):Z4:=fun b a=>k (.c0 a 0 b)
def HAd (k:kS MAQ Int):kS MAQ Int
 |.c0 c a b=>mk (cond (Gh a (Af b)) (cond (Ba a (Af b)) (cond (Jc (Vj b a) c) (some a) (k (.c0 c (NM a) b))) none) Uw)
def OAI:kN MAQ Int
 |0,_=>none
 |m+1,s=>HAd (OAI m) s
def PAI:Z4:=KAp (OAI gas)
def LAp:fK:=fy u2 PAI cv41 cv20 [] Tryz.func136 ABL HAd KAp OAI
inductive NAQ where
 |c0 (f:Int) (a:SDisk) (b:SFile) (d e:(List SFile))
 |c1 (g:Int) (a:SDisk) (b:SFile) (d e:(List SFile))
def BBL:NAQ→lQ
 |.c0 f b a d e=>(tdo Tryz.f315 464,[vp 2 128,vp 3 192,vp 4 256,vp 5 320,vi 6 f],[(128,.var [.rsl 116 b.fFiles]),(192,.var [.str a.fName,.str a.fText,li a.fKept]),(256,.var [.own 1016384]),(320,.var [.own 1020480]),(1016384,.sl 116 d),(1020480,.sl 116 e)])
 |.c1 g b a d e=>(tdo Tryz.f315 2000,[vp 2 128,vp 3 192,vp 4 256,vp 5 320,vi 7 g],[(128,.var [.rsl 116 b.fFiles]),(192,.var [.str a.fName,.str a.fText,li a.fKept]),(256,.var [.own 1016384]),(320,.var [.own 1020480]),(1016384,.sl 116 d),(1020480,.sl 116 e)])
def MAp (k:kS NAQ SDisk):MAm:=fun a b=>k (.c0 0 a b [] [])
def QAI (k:kS NAQ SDisk):kS NAQ SDisk
 |.c0 b a c e d=>mk (cond (Gh b (Af a)) (cond (Ba b (Af a)) (cond (Op.bytesLess (Zo (Vj a b)) (Zo c.fName)) (cond (Ba b (Af a)) (cond (Qw d) (k (.c0 (NM b) a c e (d++[AAD a b IK]))) none) none) (k (.c0 (NM b) a c e d))) none) (cond (Qw d) (k (.c1 0 a c e (d++[c]))) none))
 |.c1 a b c e d=>mk (cond (Gh a (Af b)) (cond (Ba a (Af b)) (cond (!((Op.bytesLess (Zo (Vj b a)) (Zo c.fName)) || (Jc (Vj b a) c.fName))) (cond (Ba a (Af b)) (cond (Qw d) (k (.c1 (NM a) b c e (d++[AAD b a IK]))) none) none) (k (.c1 (NM a) b c e d))) none) (some ⟨d⟩))
def Dz:kN NAQ SDisk
 |0,_=>none
 |m+1,s=>QAI (Dz m) s
def IAd:MAm:=MAp (Dz gas)
def CBL:fK:=fy u2 IAd cv42 cv43 [] Tryz.func315 BBL QAI MAp Dz
inductive OAQ where
 |c0 (a:ByteArray) (b:Int) (d:SDisk) (e f:(List SFile))
def DBL:OAQ→lQ
 |.c0 a b d e f=>(tdo Tryz.f316 464,[vs 1 a,vp 2 128,vp 4 256,vp 5 320,vi 6 b],[(128,.var [.rsl 116 d.fFiles]),(256,.var [.own 1016384]),(320,.var [.own 1020480]),(1016384,.sl 116 e),(1020480,.sl 116 f)])
def NAp (k:kS OAQ SDisk):NAm:=fun b a=>k (.c0 a 0 b [] [])
def JAd (k:kS OAQ SDisk):kS OAQ SDisk
 |.c0 d a b e c=>mk (cond (Gh a (Af b)) (cond (Ba a (Af b)) (cond (!(Jc (Vj b a) d)) (cond (Ba a (Af b)) (cond (Qw c) (k (.c0 d (NM a) b e (c++[AAD b a IK]))) none) none) (k (.c0 d (NM a) b e c))) none) (some ⟨c⟩))
def RAI:kN OAQ SDisk
 |0,_=>none
 |m+1,s=>JAd (RAI m) s
def KAd:NAm:=NAp (RAI gas)
def EBL:fK:=fy u2 KAd cv41 cv43 [] Tryz.func316 DBL JAd NAp RAI
def OAp (c:Pq) (j:LAO) (l:Z4) (d:MAm) (f:NAm):BAb:=fun b a=>mk ((c b).bind fun T=>cond (!T) (some (QZ,false)) ((j a.fName).bind fun U=>cond (!U) (some (QZ,false)) (cond (a.fKind != 3) (cond (!(Jc a.fTo IK)) (some (QZ,false)) (cond (a.fKind != 1) (cond (!(Jc a.fText IK)) (some (QZ,false)) ((l b a.fName).bind fun e=>cond (Gt e) (cond (Ba e (Af b)) (cond (a.fKind == 1) (cond (FZ (Nh b e) a.fText) ((d b ⟨Vj b e,(Nh b e)++a.fText,Si b e⟩).bind fun m=>Ee c m (QZ,false) (m,true)) none) (cond (Qh e) (some (QZ,false)) (cond (a.fKind == 2) ((d b ⟨Vj b e,Nh b e,Wi b e⟩).bind fun n=>Ee c n (QZ,false) (n,true)) (cond (a.fKind == 3) (cond (MZ (Si b e) (Wi b e)) (some (QZ,false)) (X5 a (QZ,false) (j a.fTo) (some (QZ,false)) ((f b a.fName).bind fun V=>(d V ⟨a.fTo,Nh b e,Si b e⟩).bind fun o=>Ee c o (QZ,false) (o,true)))) (cond (a.fKind == 4) ((f b a.fName).bind fun p=>Ee c p (QZ,false) (p,true)) (some (QZ,false))))))) none) (cond (a.fKind == 1) (cond (FZ Oo a.fText) ((d b (KAP a)).bind fun q=>Ee c q (QZ,false) (q,true)) none) (cond (Qh e) (some (QZ,false)) (cond (a.fKind == 2) ((d b ⟨a.fName,IK,TT Oo⟩).bind fun r=>Ee c r (QZ,false) (r,true)) (cond (a.fKind == 3) (X5 a (QZ,false) (j a.fTo) (some (QZ,false)) ((f b a.fName).bind fun W=>(d W ⟨a.fTo,IK,0⟩).bind fun s=>Ee c s (QZ,false) (s,true))) (cond (a.fKind == 4) ((f b a.fName).bind fun t=>Ee c t (QZ,false) (t,true)) (some (QZ,false))))))))) ((l b a.fName).bind fun g=>cond (Gt g) (cond (Ba g (Af b)) (cond (a.fKind == 1) (cond (FZ (Nh b g) a.fText) ((d b ⟨Vj b g,(Nh b g)++a.fText,Si b g⟩).bind fun u=>Ee c u (QZ,false) (u,true)) none) (cond (Qh g) (some (QZ,false)) (cond (a.fKind == 2) ((d b ⟨Vj b g,Nh b g,Wi b g⟩).bind fun v=>Ee c v (QZ,false) (v,true)) (cond (a.fKind == 3) (cond (MZ (Si b g) (Wi b g)) (some (QZ,false)) (X5 a (QZ,false) (j a.fTo) (some (QZ,false)) ((f b a.fName).bind fun X=>(d X ⟨a.fTo,Nh b g,Si b g⟩).bind fun w=>Ee c w (QZ,false) (w,true)))) (cond (a.fKind == 4) ((f b a.fName).bind fun x=>Ee c x (QZ,false) (x,true)) (some (QZ,false))))))) none) (cond (a.fKind == 1) (cond (FZ Oo a.fText) ((d b (KAP a)).bind fun y=>Ee c y (QZ,false) (y,true)) none) (cond (Qh g) (some (QZ,false)) (cond (a.fKind == 2) ((d b ⟨a.fName,IK,TT Oo⟩).bind fun z=>Ee c z (QZ,false) (z,true)) (cond (a.fKind == 3) (X5 a (QZ,false) (j a.fTo) (some (QZ,false)) ((f b a.fName).bind fun Y=>(d Y ⟨a.fTo,IK,0⟩).bind fun A=>Ee c A (QZ,false) (A,true))) (cond (a.fKind == 4) ((f b a.fName).bind fun B=>Ee c B (QZ,false) (B,true)) (some (QZ,false)))))))))) (cond (a.fKind != 1) (cond (!(Jc a.fText IK)) (some (QZ,false)) ((l b a.fName).bind fun h=>cond (Gt h) (cond (Ba h (Af b)) (cond (a.fKind == 1) (cond (FZ (Nh b h) a.fText) ((d b ⟨Vj b h,(Nh b h)++a.fText,Si b h⟩).bind fun C=>Ee c C (QZ,false) (C,true)) none) (cond (Qh h) (some (QZ,false)) (cond (a.fKind == 2) ((d b ⟨Vj b h,Nh b h,Wi b h⟩).bind fun D=>Ee c D (QZ,false) (D,true)) (cond (a.fKind == 3) (cond (MZ (Si b h) (Wi b h)) (some (QZ,false)) (X5 a (QZ,false) (j a.fTo) (some (QZ,false)) ((f b a.fName).bind fun Z=>(d Z ⟨a.fTo,Nh b h,Si b h⟩).bind fun E=>Ee c E (QZ,false) (E,true)))) (cond (a.fKind == 4) ((f b a.fName).bind fun F=>Ee c F (QZ,false) (F,true)) (some (QZ,false))))))) none) (cond (a.fKind == 1) (cond (FZ Oo a.fText) ((d b (KAP a)).bind fun G=>Ee c G (QZ,false) (G,true)) none) (cond (Qh h) (some (QZ,false)) (cond (a.fKind == 2) ((d b ⟨a.fName,IK,TT Oo⟩).bind fun H=>Ee c H (QZ,false) (H,true)) (cond (a.fKind == 3) (X5 a (QZ,false) (j a.fTo) (some (QZ,false)) ((f b a.fName).bind fun a0=>(d a0 ⟨a.fTo,IK,0⟩).bind fun I=>Ee c I (QZ,false) (I,true))) (cond (a.fKind == 4) ((f b a.fName).bind fun J=>Ee c J (QZ,false) (J,true)) (some (QZ,false))))))))) ((l b a.fName).bind fun i=>cond (Gt i) (cond (Ba i (Af b)) (cond (a.fKind == 1) (cond (FZ (Nh b i) a.fText) ((d b ⟨Vj b i,(Nh b i)++a.fText,Si b i⟩).bind fun L=>Ee c L (QZ,false) (L,true)) none) (cond (Qh i) (some (QZ,false)) (cond (a.fKind == 2) ((d b ⟨Vj b i,Nh b i,Wi b i⟩).bind fun M=>Ee c M (QZ,false) (M,true)) (cond (a.fKind == 3) (cond (MZ (Si b i) (Wi b i)) (some (QZ,false)) (X5 a (QZ,false) (j a.fTo) (some (QZ,false)) ((f b a.fName).bind fun a1=>(d a1 ⟨a.fTo,Nh b i,Si b i⟩).bind fun N=>Ee c N (QZ,false) (N,true)))) (cond (a.fKind == 4) ((f b a.fName).bind fun O=>Ee c O (QZ,false) (O,true)) (some (QZ,false))))))) none) (cond (a.fKind == 1) (cond (FZ Oo a.fText) ((d b (KAP a)).bind fun P=>Ee c P (QZ,false) (P,true)) none) (cond (Qh i) (some (QZ,false)) (cond (a.fKind == 2) ((d b ⟨a.fName,IK,TT Oo⟩).bind fun Q=>Ee c Q (QZ,false) (Q,true)) (cond (a.fKind == 3) (X5 a (QZ,false) (j a.fTo) (some (QZ,false)) ((f b a.fName).bind fun a2=>(d a2 ⟨a.fTo,IK,0⟩).bind fun R=>Ee c R (QZ,false) (R,true))) (cond (a.fKind == 4) ((f b a.fName).bind fun S=>Ee c S (QZ,false) (S,true)) (some (QZ,false))))))))))))
def PAQ:BAb:=OAp H6 MAI PAI IAd KAd
def FBL:fK:=fy0 u2 PAQ cv44 cv45 [GAd,XA5,LAp,CBL,EBL] Tryz.func277 OAp
inductive QAQ where
 |c0 (a:(List SAct)) (b:Int) (d e:(List SFile))
def GBL:QAQ→lQ
 |.c0 a b d e=>(tdo Tryz.f219 464,[vr 1 123 a,vp 4 256,vp 6 384,vi 7 b],[(256,.var [.own 1016384]),(384,.var [.own 1024576]),(1016384,.sl 116 d),(1024576,.sl 116 e)])
def PAp (c:BAb) (k:kS QAQ (SDisk×Int)):MAO:=fun a b=>mk (cond (Nb ((0+(Af a))*40)) (k (.c0 b 0 [] a.fFiles)) none)
def LAd (a:BAb) (k:kS QAQ (SDisk×Int)):kS QAQ (SDisk×Int)
 |.c0 c b f e=>mk (cond (Gh b c.length) (cond (Ba b c.length) ((a ⟨e⟩ (c.getD (GZ b) (⟨0,IK,IK,IK⟩:SAct))).bind fun d=>cond (!d.2) (some (⟨e⟩,b)) (k (.c0 c (NM b) f d.1.fFiles))) none) (some (⟨e⟩,(c.length:Int))))
def SAI:kN QAQ (SDisk×Int)
 |0,_=>none
 |m+1,s=>LAd PAQ (SAI m) s
def TAI:MAO:=PAp PAQ (SAI gas)
def QAp:fK:=fy u2 TAI cv46 cv47 [FBL] Tryz.func219 GBL LAd PAp SAI
def RAp (c:KAO) (g:MAO):NAO:=fun d h e f=>(c d e f).bind fun a=>(g h a.1).bind fun b=>some b.1
def XAD:NAO:=RAp LAI TAI
def YA5:fK:=fy0 u4 XAD cv48 cv43 [WA5,QAp] Tryz.func214 RAp
def SAp (g:NZ) (h:Qs) (i:Hw) (j:NAO):OAm:=fun a c=>mk (cond ((TT a) != 32) (some (⟨IK,false,QZ,Yc,[],[],0⟩,false)) (cond ((TT c) > 20) (some (⟨IK,false,QZ,Yc,[],[],0⟩,false)) ((g c).bind fun b=>h.bind fun d=>(i d ⟨1,b,0,⟨0,0,false,false,false,false,IK,0⟩⟩).bind fun e=>(j a QZ 0 ⟨1,b,0,⟨0,0,false,false,false,false,IK,0⟩⟩).bind fun f=>some (⟨a,true,f,e.1,[],[],0⟩,true))))
def MAd:OAm:=SAp Rh D6 Az XAD
def HBL:fK:=fy0 u2 MAd cv34 cv49 [Hr,UAP,VAo,YA5] Tryz.func155 SAp
def TAp (d:OAm) (f:NZ):XAG:=fun e b=>mk ((d e b).bind fun a=>cond (!a.2) (some (⟨⟨IK,false,QZ,Yc,[],[],0⟩,[],[],[],[]⟩,false)) ((f b).bind fun c=>some (⟨a.1,[],[],[],[⟨1,c,0,⟨0,0,false,false,false,false,IK,0⟩⟩]⟩,true)))
def YAD:XAG:=TAp MAd Rh
def ZA5:fK:=fy0 u2 YAD cv34 cv50 [HBL,Hr] Tryz.func93 TAp
def UAp (b:Dw):VAC:=fun c d=>mk ((b (XZ c) d).bind fun a=>some (Ib a.1,XZ a.2))
def Ez:VAC:=UAp Zq
def VAp:fK:=fy0 u2 Ez cv5 cv51 [OAD] Tryz.func41 UAp [0]
def WAp (c:Dw):CAb:=fun d b=>mk ((c (XZ d) (IZ b)).bind fun a=>cond (RZ a.1 (IZ b)) (some (JZ b a.1,XZ a.2)) none)
def RAQ:CAb:=WAp Zq
def IBL:fK:=fy0 u2 RAQ cv52 cv4 [OAD] Tryz.func39 WAp [0]
def XAp (c:Dw):OAO:=fun d b=>mk ((c (XZ d) (Mc b)).bind fun a=>cond (RZ a.1 (Mc b)) (some (Me b a.1 IK,XZ a.2)) none)
def UAI:OAO:=XAp Zq
def AA6:fK:=fy0 u2 UAI cv53 cv54 [OAD] Tryz.func42 XAp [0]
inductive SAQ where
 |c0 (a b:Int) (d e:Int) (f:(List Int))
def JBL:SAQ→lQ
 |.c0 a b d e f=>(tdo Tryz.f104 976,[vp 0 0,vi 1 a,vo 5 368,vi 6 b],[(0,.var [.csl,li d,li e]),(368,.sl 5 f)])
def YAp (c:JAO) (k:kS SAQ (ByteArray×SL01Cur)):PAm:=fun a b=>cond (b > 5000) (k (.c0 5000 0 a.fI a.fH [])) (k (.c0 b 0 a.fI a.fH []))
def NAd (a:JAO) (k:kS SAQ (ByteArray×SL01Cur)):kS SAQ (ByteArray×SL01Cur)
 |.c0 e d f g c=>mk (cond (MZ d e) ((a ⟨(),f,g⟩).bind fun b=>cond (Qm c) (k (.c0 e (NM d) b.2.fI b.2.fH (c++[w8 b.1]))) none) (some (ofBytes c,⟨(),f,g⟩)))
def ZAD:kN SAQ (ByteArray×SL01Cur)
 |0,_=>none
 |m+1,s=>NAd WAH (ZAD m) s
def OAd:PAm:=YAp WAH (ZAD gas)
def KBL:fK:=fy u2 OAd cv5 cv54 [BA5] Tryz.func104 JBL NAd YAp ZAD [0]
def ZAp (e:Dw) (f:VAC) (t:PAm) (o:OAO) (q:NZ):DAb:=fun s=>mk ((e (XZ s) 6).bind fun c=>(e (XZ c.2) 3).bind fun a=>(f (XZ a.2) 2).bind fun d=>(f (XZ d.2) 2).bind fun b=>cond ((FN (1+a.1)) == 3) ((e (XZ b.2) 9).bind fun g=>(t (XZ g.2) g.1).bind fun h=>some (⟨FN (1+c.1),FN (1+a.1),d.1,b.1,false,false,h.1,0⟩,XZ h.2)) (cond ((FN (1+a.1)) == 2) ((e (XZ b.2) 17).bind fun i=>(f (XZ i.2) 4).bind fun j=>(o (XZ j.2) HAc).bind fun l=>(q l.1).bind fun p=>some (⟨FN (1+c.1),FN (1+a.1),d.1,b.1,!j.1,false,p,i.1⟩,XZ l.2)) ((f (XZ b.2) 4).bind fun m=>(o (XZ m.2) HAc).bind fun n=>(q n.1).bind fun r=>some (⟨FN (1+c.1),FN (1+a.1),d.1,b.1,false,!m.1,r,0⟩,XZ n.2))))
def TAQ:DAb:=ZAp Zq Ez OAd UAI Rh
def LBL:fK:=fy0 u1 TAQ cv3 cv55 [OAD,VAp,KBL,AA6,Hr] Tryz.func44 ZAp [0]
def AAq (b:NZ):Ky:=fun a=>mk (Nc (FZ TAH a.fKey) (Pg (b (TAH++a.fKey))))
def AAE:Ky:=AAq Rh
def BAq:fK:=fy0 u1 AAE cv56 cv7 [Hr] Tryz.func46 AAq
inductive UAQ where
 |c0 (a:ByteArray) (b:(List Int))
def MBL:UAQ→lQ
 |.c0 a b=>(tdo Tryz.f45 480,[vs 0 a,vo 6 432],[(432,.sl 5 b)])
def CAq (c:LZ) (e:Rl) (k:kS UAQ (ByteArray×Bool)):Og:=fun d a=>mk (cond ((TT a) > 400) (EZ (IK,false)) ((c (TT a)).bind fun b=>cond (FZ b a) (cond (Qq (b++a)) (k (.c0 d (Wj (b++a)))) none) none))
def PAd (a:LZ) (b:Rl) (k:kS UAQ (ByteArray×Bool)):kS UAQ (ByteArray×Bool)
 |.c0 e c=>mk (cond (((IZ c).tmod 16) != 0) (cond (Qm c) (k (.c0 e (c++[Ea]))) none) ((b e 0 (ofBytes c)).bind fun d=>EZ (d.1,d.2)))
def VAI:kN UAQ (ByteArray×Bool)
 |0,_=>none
 |m+1,s=>PAd Jt JAI (VAI m) s
def BAE:Og:=CAq Jt JAI (VAI gas)
def DAq:fK:=fy u2 BAE cv34 cv23 [KAA,VA5] Tryz.func45 MBL PAd CAq VAI
inductive VAQ where
 |c0 (f:ByteArray) (a b:Int) (g:SBox) (d e:SCall)
 |c1 (f:ByteArray) (h a b:Int) (g:SBox) (d e:SCall)
 |c2 (f:ByteArray) (a b:Int) (g:SBox) (d e:SCall)
 |c3 (a b:Int) (d e:SCall)
 |c4 (a b:Int) (d e:SCall)
def NBL:VAQ→lQ
 |.c0 g e f d a b=>(tdo Tryz.f14 60,[vp 0 0,vs 2 g,vp 4 256,vp 6 384,vp 7 448],[(0,.var [.csl,li e,li f]),(256,.var [.str d.fKey,.bool d.fUp,.rsl 116 d.fDisk.fFiles,.str d.fBook.fWord,li d.fBook.fTries,.rsl 45 d.fBook.fThings,li d.fBook.fLast,.str d.fBook.fChain,li d.fBook.fCount,.rsl 58 d.fSessions,.rsl 126 d.fLives,li d.fOpened]),(384,.var [li a.fOp,li a.fSession,li a.fThing,li a.fKind,.str a.fText,.bool a.fHidden,.bool a.fFixed]),(448,.var [li b.fOp,li b.fSession,li b.fThing,li b.fKind,.str b.fText,.bool b.fHidden,.bool b.fFixed])])
 |.c1 g h e f d a b=>(tdo Tryz.f14 31440,[vp 0 0,vs 2 g,vp 4 256,vp 6 384,vp 7 448,vi 8 h],[(0,.var [.csl,li e,li f]),(256,.var [.str d.fKey,.bool d.fUp,.rsl 116 d.fDisk.fFiles,.str d.fBook.fWord,li d.fBook.fTries,.rsl 45 d.fBook.fThings,li d.fBook.fLast,.str d.fBook.fChain,li d.fBook.fCount,.rsl 58 d.fSessions,.rsl 126 d.fLives,li d.fOpened]),(384,.var [li a.fOp,li a.fSession,li a.fThing,li a.fKind,.str a.fText,.bool a.fHidden,.bool a.fFixed]),(448,.var [li b.fOp,li b.fSession,li b.fThing,li b.fKind,.str b.fText,.bool b.fHidden,.bool b.fFixed])])
 |.c2 g e f d a b=>(tdo Tryz.f14 124,[vp 0 0,vs 2 g,vp 4 256,vp 6 384,vp 7 448],[(0,.var [.csl,li e,li f]),(256,.var [.str d.fKey,.bool d.fUp,.rsl 116 d.fDisk.fFiles,.str d.fBook.fWord,li d.fBook.fTries,.rsl 45 d.fBook.fThings,li d.fBook.fLast,.str d.fBook.fChain,li d.fBook.fCount,.rsl 58 d.fSessions,.rsl 126 d.fLives,li d.fOpened]),(384,.var [li a.fOp,li a.fSession,li a.fThing,li a.fKind,.str a.fText,.bool a.fHidden,.bool a.fFixed]),(448,.var [li b.fOp,li b.fSession,li b.fThing,li b.fKind,.str b.fText,.bool b.fHidden,.bool b.fFixed])])
 |.c3 e f a b=>(tdo Tryz.f14 252,[vp 0 0,vp 6 384,vp 7 448],[(0,.var [.csl,li e,li f]),(384,.var [li a.fOp,li a.fSession,li a.fThing,li a.fKind,.str a.fText,.bool a.fHidden,.bool a.fFixed]),(448,.var [li b.fOp,li b.fSession,li b.fThing,li b.fKind,.str b.fText,.bool b.fHidden,.bool b.fFixed])])
 |.c4 e f a b=>(tdo Tryz.f14 508,[vp 0 0,vp 6 384,vp 7 448],[(0,.var [.csl,li e,li f]),(384,.var [li a.fOp,li a.fSession,li a.fThing,li a.fKind,.str a.fText,.bool a.fHidden,.bool a.fFixed]),(448,.var [li b.fOp,li b.fSession,li b.fThing,li b.fKind,.str b.fText,.bool b.fHidden,.bool b.fFixed])])
def EAq (f:CAb) (h:Dw) (i:VAC) (j:OAO) (l:DAb) (m:Uu) (n:Ky) (o:Og) (k:kS VAQ (SCall×SL01Cur)):EAb:=fun g a e=>mk ((f (XZ g) [1,2,2,3,4,4,4,5,5,5,6,7,8,9,10,11,12,13]).bind fun c=>cond (Ib (Qg a:Int)) (k (.c0 e c.2.fI c.2.fH a ⟨0,0,0,0,IK,false,false⟩ ⟨1,0,0,0,IK,false,false⟩)) ((h (XZ c.2) (Qg a:Int)).bind fun b=>cond (RZ b.1 (Qg a:Int)) (cond (F5 Ea (Qg a:Int)) (cond (!(Yk (Vd a) Ea ⟨0,false⟩).fIn) ((i (XZ b.2) 4).bind fun d=>cond (!d.1) (cond (F5 Ea (Qg a:Int)) (k (.c0 e d.2.fI d.2.fH a ⟨0,0,0,0,IK,false,false⟩ ⟨2,(Yk (Vd a) Ea ⟨0,false⟩).fId,0,0,IK,false,false⟩)) none) (k (.c0 e d.2.fI d.2.fH a ⟨0,0,0,0,IK,false,false⟩ ⟨c.1,(Yk (Vd a) b.1 ⟨0,false⟩).fId,0,0,IK,false,false⟩))) (k (.c0 e b.2.fI b.2.fH a ⟨0,0,0,0,IK,false,false⟩ ⟨c.1,(Yk (Vd a) b.1 ⟨0,false⟩).fId,0,0,IK,false,false⟩))) none) none))
def PAA (a:CAb) (b:Dw) (c:VAC) (d:OAO) (e:DAb) (f:Uu) (g:Ky) (h:Og) (k:kS VAQ (SCall×SL01Cur)):kS VAQ (SCall×SL01Cur)
 |.c0 m o p j n i=>mk (cond (Yl (Jd j.fBook)) ((b ⟨(),o,p⟩ (Jd j.fBook)).bind fun l=>cond (RZ l.1 (Jd j.fBook)) (cond (i.fOp == 5) (k (.c1 m 0 l.2.fI l.2.fH j n ⟨i.fOp,Fj i,(Eb (PZ j.fBook) l.1 ⟨0,0,false,false,false,false,IK,0⟩).fId,i.fKind,i.fText,i.fHidden,i.fFixed⟩)) (k (.c2 m l.2.fI l.2.fH j n ⟨i.fOp,Fj i,(Eb (PZ j.fBook) l.1 ⟨0,0,false,false,false,false,IK,0⟩).fId,i.fKind,i.fText,i.fHidden,i.fFixed⟩))) none) (k (.c2 m o p j n i)))
 |.c1 n l p q i o j=>mk (cond (MZ l (Jd i.fBook)) (cond (RZ l (Jd i.fBook)) (cond (Ld (Eb (PZ i.fBook) l ⟨0,0,false,false,false,false,IK,0⟩)) ((c ⟨(),p,q⟩ 3).bind fun m=>cond (!m.1) (cond (RZ l (Jd i.fBook)) (k (.c1 n (NM l) m.2.fI m.2.fH i o ⟨j.fOp,Fj j,(Eb (PZ i.fBook) l ⟨0,0,false,false,false,false,IK,0⟩).fId,j.fKind,j.fText,j.fHidden,j.fFixed⟩)) none) (k (.c1 n (NM l) m.2.fI m.2.fH i o j))) (k (.c1 n (NM l) p q i o j))) none) (k (.c2 n p q i o j)))
 |.c2 w l m A j i=>mk (cond (i.fOp == 2) ((c ⟨(),l,m⟩ 4).bind fun n=>cond n.1 (k (.c3 n.2.fI n.2.fH j ⟨i.fOp,Fj i,i.fThing,i.fKind,⟨#[110,111]⟩,i.fHidden,i.fFixed⟩)) (k (.c3 n.2.fI n.2.fH j ⟨i.fOp,Fj i,i.fThing,i.fKind,w,i.fHidden,i.fFixed⟩))) (cond (i.fOp == 3) (k (.c3 l m j ⟨i.fOp,Fj i,i.fThing,i.fKind,w,i.fHidden,i.fFixed⟩)) (cond (i.fOp == 4) ((a ⟨(),l,m⟩ [1,2,2,2,3,3]).bind fun s=>(d (XZ s.2) HAc).bind fun t=>(c (XZ t.2) 3).bind fun u=>(c (XZ u.2) 3).bind fun o=>k (.c3 o.2.fI o.2.fH j ⟨i.fOp,Fj i,i.fThing,s.1,t.1,u.1,o.1⟩)) (cond (i.fOp == 5) ((d ⟨(),l,m⟩ [⟨#[109]⟩,⟨#[110]⟩]).bind fun p=>k (.c3 p.2.fI p.2.fH j ⟨i.fOp,Fj i,i.fThing,i.fKind,p.1,i.fHidden,i.fFixed⟩)) (cond (i.fOp == 8) ((c ⟨(),l,m⟩ 4).bind fun v=>(c (XZ v.2) 2).bind fun q=>k (.c3 q.2.fI q.2.fH j ⟨i.fOp,Fj i,i.fThing,i.fKind,i.fText,!v.1,q.1⟩)) (cond (i.fOp == 11) ((e ⟨(),l,m⟩).bind fun r=>(f r.1).bind fun x=>(g A).bind fun y=>(h y x.1).bind fun z=>k (.c3 r.2.fI r.2.fH j ⟨i.fOp,Fj i,i.fThing,i.fKind,z.1,i.fHidden,i.fFixed⟩)) (k (.c3 l m j i))))))))
 |.c3 n o m i=>mk ((c ⟨(),n,o⟩ 20).bind fun j=>cond j.1 ((b (XZ j.2) 5).bind fun l=>k (.c4 l.2.fI l.2.fH m ⟨i.fOp,l.1,i.fThing,i.fKind,i.fText,i.fHidden,i.fFixed⟩)) (k (.c4 j.2.fI j.2.fH m i)))
 |.c4 m n _ i=>mk ((c ⟨(),m,n⟩ 20).bind fun j=>cond j.1 ((b (XZ j.2) 9).bind fun l=>some (⟨i.fOp,Fj i,l.1,i.fKind,i.fText,i.fHidden,i.fFixed⟩,XZ l.2)) (some (i,XZ j.2)))
def Ir:kN VAQ (SCall×SL01Cur)
 |0,_=>none
 |m+1,s=>PAA RAQ Zq Ez UAI TAQ LAA AAE BAE (Ir m) s
def WAQ:EAb:=EAq RAQ Zq Ez UAI TAQ LAA AAE BAE (Ir gas)
def BA6:fK:=fy u3 WAQ cv57 cv58 [IBL,OAD,VAp,AA6,LBL,UAc,BAq,DAq] Tryz.func14 NBL PAA EAq Ir [0]
def FAq (b:VAC) (L:EAb) (c:Dw):FAb:=fun J a=>mk (cond (!a.fBox.fUp) ((b (XZ J) 4).bind fun h=>cond (!h.1) (some (⟨⟨0,0,0,0,IK,false,false⟩,false,[],true⟩,XZ h.2,a)) ((L (XZ h.2) a.fBox ⟨#[119]⟩).bind fun d=>cond (Yl (Mc (Ph a))) (cond (d.1.fOp == 11) ((b (XZ d.2) 2).bind fun i=>cond i.1 ((c (XZ i.2) (Mc (Ph a))).bind fun f=>cond (RZ f.1 (Mc (Ph a))) ((b (XZ f.2) 12).bind fun j=>cond j.1 ((c (XZ j.2) 2000).bind fun t=>(c (XZ t.2) 50).bind fun u=>Om b u.2 ⟨⟨0,0,0,0,IK,false,false⟩,false,[],true⟩ a ⟨WAO d a f,true,[t.1,u.1],false⟩) (Om b j.2 ⟨⟨0,0,0,0,IK,false,false⟩,false,[],true⟩ a ⟨WAO d a f,false,[],false⟩)) none) ((b (XZ i.2) 12).bind fun l=>cond l.1 ((c (XZ l.2) 2000).bind fun v=>(c (XZ v.2) 50).bind fun w=>Om b w.2 ⟨⟨0,0,0,0,IK,false,false⟩,false,[],true⟩ a ⟨d.1,true,[v.1,w.1],false⟩) (Om b l.2 ⟨⟨0,0,0,0,IK,false,false⟩,false,[],true⟩ a ⟨d.1,false,[],false⟩))) ((b (XZ d.2) 12).bind fun m=>cond m.1 ((c (XZ m.2) 2000).bind fun x=>(c (XZ x.2) 50).bind fun y=>Om b y.2 ⟨⟨0,0,0,0,IK,false,false⟩,false,[],true⟩ a ⟨d.1,true,[x.1,y.1],false⟩) (Om b m.2 ⟨⟨0,0,0,0,IK,false,false⟩,false,[],true⟩ a ⟨d.1,false,[],false⟩))) ((b (XZ d.2) 12).bind fun n=>cond n.1 ((c (XZ n.2) 2000).bind fun z=>(c (XZ z.2) 50).bind fun A=>Om b A.2 ⟨⟨0,0,0,0,IK,false,false⟩,false,[],true⟩ a ⟨d.1,true,[z.1,A.1],false⟩) (Om b n.2 ⟨⟨0,0,0,0,IK,false,false⟩,false,[],true⟩ a ⟨d.1,false,[],false⟩)))) ((L (XZ J) a.fBox ⟨#[119]⟩).bind fun e=>cond (Yl (Mc (Ph a))) (cond (e.1.fOp == 11) ((b (XZ e.2) 2).bind fun o=>cond o.1 ((c (XZ o.2) (Mc (Ph a))).bind fun g=>cond (RZ g.1 (Mc (Ph a))) ((b (XZ g.2) 12).bind fun p=>cond p.1 ((c (XZ p.2) 2000).bind fun B=>(c (XZ B.2) 50).bind fun C=>Om b C.2 ⟨⟨0,0,0,0,IK,false,false⟩,false,[],true⟩ a ⟨WAO e a g,true,[B.1,C.1],false⟩) (Om b p.2 ⟨⟨0,0,0,0,IK,false,false⟩,false,[],true⟩ a ⟨WAO e a g,false,[],false⟩)) none) ((b (XZ o.2) 12).bind fun q=>cond q.1 ((c (XZ q.2) 2000).bind fun D=>(c (XZ D.2) 50).bind fun E=>Om b E.2 ⟨⟨0,0,0,0,IK,false,false⟩,false,[],true⟩ a ⟨e.1,true,[D.1,E.1],false⟩) (Om b q.2 ⟨⟨0,0,0,0,IK,false,false⟩,false,[],true⟩ a ⟨e.1,false,[],false⟩))) ((b (XZ e.2) 12).bind fun r=>cond r.1 ((c (XZ r.2) 2000).bind fun F=>(c (XZ F.2) 50).bind fun G=>Om b G.2 ⟨⟨0,0,0,0,IK,false,false⟩,false,[],true⟩ a ⟨e.1,true,[F.1,G.1],false⟩) (Om b r.2 ⟨⟨0,0,0,0,IK,false,false⟩,false,[],true⟩ a ⟨e.1,false,[],false⟩))) ((b (XZ e.2) 12).bind fun s=>cond s.1 ((c (XZ s.2) 2000).bind fun H=>(c (XZ H.2) 50).bind fun I=>Om b I.2 ⟨⟨0,0,0,0,IK,false,false⟩,false,[],true⟩ a ⟨e.1,true,[H.1,I.1],false⟩) (Om b s.2 ⟨⟨0,0,0,0,IK,false,false⟩,false,[],true⟩ a ⟨e.1,false,[],false⟩))))
def XAQ:FAb:=FAq Ez WAQ Zq
def OBL:fK:=fy0 u2 XAQ cv59 cv60 [VAp,BA6,OAD] Tryz.func94 FAq [0, 64]
def GAq:WAC:=fun a b c=>mk (cond (Nb ((0+a.fCodes.length)*8)) (cond (Tq a.fCodes) (cond (Nb ((0+(Ph a).length)*16)) (cond (Xl (Ph a)) (some ⟨a.fBox,a.fCodes++[b],(Ph a)++[c],a.fGives,a.fDone⟩) none) none) none) none)
def J6:WAC:=GAq
def HAq:fK:=fy0 u3 J6 cv61 cv62 [] Tryz.func158 GAq [0]
def CA6:G9:=fun a b=>some ([],a,b)
def CAE:G9:=CA6
def WAI:fK:=fy0 u2 CAE cv63 cv64 [] Tryz.func26 CA6
def IAq:Ac:=fun a=>mk (cond (a<10) (some (w8 (FN (48+a)))) (some (w8 (FN ((FN (97+a)) - 10)))))
def QAd:Ac:=IAq
def PBL:fK:=fy0 u1 QAd cv20 cv65 [] Tryz.func137 IAq
inductive YAQ where
 |c0 (a:Int) (b:Bool) (d:ByteArray)
def QBL:YAQ→lQ
 |.c0 a b d=>(tdo Tryz.f75 992,[vi 0 a,vb 3 b,vs 4 d],[])
def JAq (b:Ac) (k:kS YAQ ByteArray):LZ:=fun a=>mk (cond (Ib a) (some ⟨#[48]⟩) (k (.c0 a (Qh a) IK)))
def KAq (a:Ac) (k:kS YAQ ByteArray):kS YAQ ByteArray
 |.c0 c e b=>mk (cond (c != 0) (cond (Qh (c.tmod 10)) ((a (FN (0 - (c.tmod 10)))).bind fun d=>cond (FZ (ofBytes [d]) b) (k (.c0 (FN (c.tdiv 10)) e ((ofBytes [d])++b))) none) ((a (c.tmod 10)).bind fun f=>cond (FZ (ofBytes [f]) b) (k (.c0 (FN (c.tdiv 10)) e ((ofBytes [f])++b))) none)) (cond e (Nc (FZ (Qb ⟨#[45]⟩) b) (some ((Qb ⟨#[45]⟩)++b))) (some b)))
def ZAQ:kN YAQ ByteArray
 |0,_=>none
 |m+1,s=>KAq QAd (ZAQ m) s
def XAI:LZ:=JAq QAd (ZAQ gas)
def DA6:fK:=fy u1 XAI cv20 cv7 [PBL] Tryz.func75 QBL KAq JAq ZAQ
def EA6:XAC:=fun a b=>some (a,0,b)
def YAI:XAC:=EA6
def AAR:fK:=fy0 u2 YAI cv66 cv64 [] Tryz.func74 EA6
inductive CAR where
 |c0 (a b:Int) (d:SBox)
def RBL:CAR→lQ
 |.c0 b d a=>(tdo Tryz.f76 208,[vi 1 b,vp 2 128,vi 5 d],[(128,.var [.str a.fKey,.bool a.fUp,.rsl 116 a.fDisk.fFiles,.str a.fBook.fWord,li a.fBook.fTries,.rsl 45 a.fBook.fThings,li a.fBook.fLast,.str a.fBook.fChain,li a.fBook.fCount,.rsl 58 a.fSessions,.rsl 126 a.fLives,li a.fOpened])])
def LAq (k:kS CAR Int):Bo:=fun b a=>k (.c0 a 0 b)
def RAd (k:kS CAR Int):kS CAR Int
 |.c0 c a b=>mk (cond (Gh a (Qg b)) (cond (Ba a (Qg b)) (cond ((Yk (Vd b) a ⟨0,false⟩).fId == c) (some a) (k (.c0 c (NM a) b))) none) Uw)
def ZAI:kN CAR Int
 |0,_=>none
 |m+1,s=>RAd (ZAI m) s
def SAd:Bo:=LAq (ZAI gas)
def SBL:fK:=fy u2 SAd cv67 cv20 [] Tryz.func76 RBL RAd LAq ZAI
def MAq (d:G9) (e:NZ) (c:XAC):Fh:=fun a f=>mk (cond ((Oe a.fBook) == 3) (VZ (d 3 ⟨#[108,111,99,107,101,100]⟩)) ((e f.fText).bind fun b=>cond (Jc b a.fBook.fWord) (cond (Ib (Oe a.fBook)) (VZ (c [] IK)) (VZ (c [⟨2,IK,0,⟨0,0,false,false,false,false,IK,0⟩⟩] IK))) (some ([⟨2,IK,NM (Oe a.fBook),⟨0,0,false,false,false,false,IK,0⟩⟩],4,⟨#[119,111,114,100]⟩))))
def TAd:Fh:=MAq CAE Rh YAI
def TBL:fK:=fy0 u2 TAd cv68 cv64 [WAI,Hr,AAR] Tryz.func77 MAq
def NAq (d:NZ):YAG:=fun a b=>mk (cond (a == 1) ((d b).bind fun c=>some (⟨0,a,true,false,false,true,c,0⟩,true)) (cond (a == 2) ((d b).bind fun e=>some (⟨0,a,true,false,true,false,e,0⟩,true)) (cond (a == 3) (cond ((TT b)≤100) (some (⟨0,a,false,false,false,false,b,0⟩,true)) (some (⟨0,0,false,false,false,false,IK,0⟩,false))) (some (⟨0,0,false,false,false,false,IK,0⟩,false)))))
def UAd:YAG:=NAq Rh
def UBL:fK:=fy0 u2 UAd cv63 cv27 [Hr] Tryz.func79 NAq
def FA6:PAO:=fun a=>mk (some [⟨3,IK,0,a⟩])
def VAd:PAO:=FA6
def OAq:fK:=fy0 u1 VAd cv21 cv69 [] Tryz.func141 FA6
def PAq (g:G9) (c:PAO) (d:LZ) (e:XAC):H9:=fun b f a q=>mk (cond (!q) (VZ (g 6 DAP)) (cond ((Jd b.fBook) == 8) (VZ (g 1 GAD)) (cond (b.fBook.fLast == 1000) (VZ (g 1 GAD)) (cond (Qe a) (cond (Bd a) ((c ⟨Zk b,a.fKind,true,true,Ld a,Ad a,Lc a,a.fNext⟩).bind fun h=>(d (Zk b)).bind fun i=>VZ (e h i)) ((c ⟨Zk b,a.fKind,true,f.fFixed,Ld a,Ad a,Lc a,a.fNext⟩).bind fun j=>(d (Zk b)).bind fun l=>VZ (e j l))) (cond (Bd a) ((c ⟨Zk b,a.fKind,f.fHidden,true,Ld a,Ad a,Lc a,a.fNext⟩).bind fun m=>(d (Zk b)).bind fun n=>VZ (e m n)) ((c ⟨Zk b,a.fKind,f.fHidden,f.fFixed,Ld a,Ad a,Lc a,a.fNext⟩).bind fun o=>(d (Zk b)).bind fun p=>VZ (e o p)))))))
def DAR:H9:=PAq CAE VAd XAI YAI
def GA6:fK:=fy0 u4 DAR cv70 cv64 [WAI,OAq,DA6,AAR] Tryz.func80 PAq
def QAq:QAm:=fun a b=>mk (some (Jc a b))
def RAq:QAm:=QAq
def VBL:fK:=fy0 u2 RAq cv34 cv1 [] Tryz.func249 QAq
def SAq (h:C9) (i:D9) (j:QAm) (l:Ql):Rl:=fun c d a=>mk (cond ((TT a)<16) (EZ (IK,false)) (Bc (IAP a) ((h c d (TT (FAA a))).bind fun b=>cond (!b.2) (EZ (IK,false)) ((i c d (FAA a)).bind fun e=>Bc (Sj (TT (FAA a)) (TT a)) ((j e (Fp a (TT (FAA a)))).bind fun f=>cond (!f) (EZ (IK,false)) ((l (FAA a) b.1).bind fun g=>EZ (g,true)))))))
def AAJ:Rl:=SAq GAQ JAQ RAq IAQ
def HA6:fK:=fy0 u3 AAJ cv36 cv23 [SA5,UA5,VBL,TA5] Tryz.func187 SAq
inductive EAR where
 |c0 (a:ByteArray) (b d:Int) (e f:Int)
def WBL:EAR→lQ
 |.c0 a b d e f=>(tdo Tryz.f197 2000,[vs 0 a,vi 1 b,vi 7 d,vi 8 e,vi 9 f],[])
def GAR (d:Ja) (e:LZ) (k:kS EAR (Int×Int×Bool)):Us:=fun c a=>mk ((d a 0 (TT c)).bind fun b=>cond (!b) (some (0,0,false)) (k (.c0 c a 0 1 a)))
def WAd (a:Ja) (b:LZ) (k:kS EAR (Int×Int×Bool)):kS EAR (Int×Int×Bool)
 |.c0 d f g e c=>mk (cond (MZ c (TT d)) (cond (MZ c (FN (f+5))) (cond (RZ c (TT d)) (cond (RZ c (TT d)) (cond ((bt d c)<128) (cond ((Va g (FN (((Ri d c).tmod 128)*e))) > 1000000000) (some (0,0,false)) ((b (Va g (FN (((Ri d c).tmod 128)*e)))).bind fun h=>cond (Tj f (NM c) (TT d)) (cond (!(Jc h (d.extract (GZ f) (GZ (NM c))))) (some (0,0,false)) (some (Va g (FN (((Ri d c).tmod 128)*e)),NM c,true))) none)) (k (.c0 d f (Va g (FN (((Ri d c).tmod 128)*e))) (FN (e*128)) (NM c)))) none) none) (some (0,0,false))) (some (0,0,false)))
def Zw:kN EAR (Int×Int×Bool)
 |0,_=>none
 |m+1,s=>WAd Td Jt (Zw m) s
def Kv:Us:=GAR Td Jt (Zw gas)
def TAq:fK:=fy u2 Kv cv13 cv71 [Ji,KAA] Tryz.func197 WBL WAd GAR Zw
def UAq (f:Rl) (g:Us) (h:Og):Og:=fun d e=>mk ((f d 0 e).bind fun b=>(g b.1 0).bind fun a=>cond (!b.2) (EZ (IK,false)) (cond (!a.2.2) (EZ (IK,false)) (cond (a.1 > (Ze (TT b.1) a.2.1)) (EZ (IK,false)) (Bc (Tj a.2.1 (Va a.2.1 a.1) (TT b.1)) ((h d (Ii b.1 a.2.1 (a.2.1+a.1))).bind fun c=>cond (!c.2) (EZ (IK,false)) (cond (!(Jc c.1 e)) (EZ (IK,false)) (EZ (Ii b.1 a.2.1 (a.2.1+a.1),true))))))))
def XAd:Og:=UAq AAJ Kv BAE
def XBL:fK:=fy0 u2 XAd cv34 cv23 [HA6,TAq,DAq] Tryz.func142 UAq
def YAd (c:Us):I9:=fun a=>(c a.fText a.fAt).bind fun b=>cond a.fBad (some (0,⟨a.fText,a.fAt,true⟩)) (cond (!b.2.2) (some (0,⟨a.fText,a.fAt,true⟩)) (some (b.1,⟨a.fText,b.2.1,a.fBad⟩)))
def QAA:I9:=YAd Kv
def VAq:fK:=fy0 u1 QAA cv72 cv73 [TAq] Tryz.func198 YAd [0]
def ZAd:QAO:=fun a b=>mk (cond a.fBad (some (IK,⟨a.fText,a.fAt,true⟩)) (cond (b > (Ze (TT a.fText) a.fAt)) (some (IK,⟨a.fText,a.fAt,true⟩)) (cond (Tj (Ze (Va a.fAt b) b) (Va a.fAt b) (TT a.fText)) (some (a.fText.extract (Fb ((Va a.fAt b) - b)) (Fb (a.fAt+b)),⟨a.fText,Va a.fAt b,a.fBad⟩)) none)))
def Fz:QAO:=ZAd
def WAq:fK:=fy0 u2 Fz cv74 cv75 [] Tryz.func250 ZAd [0]
def AAe (b:QAO):I9:=fun c=>mk ((b c 1).bind fun a=>cond a.2.fBad (some (0,a.2)) (cond (F5 Ea (TT a.1)) (some (FN (bt a.1 0),a.2)) none))
def Dx:I9:=AAe Fz
def IA6:fK:=fy0 u1 Dx cv72 cv73 [WAq] Tryz.func199 AAe [0]
def BAe (c:I9) (e:QAO):RAm:=fun d=>(c d).bind fun a=>(e a.2 a.1).bind fun b=>some (b.1,b.2)
def BAJ:RAm:=BAe QAA Fz
def YBL:fK:=fy0 u1 BAJ cv72 cv75 [VAq,WAq] Tryz.func200 BAe [0]
def CAe (g i:I9) (j:RAm) (l:Uu):J9:=fun h=>mk ((g ⟨h,0,false⟩).bind fun b=>(i b.2).bind fun c=>(i c.2).bind fun a=>(j a.2).bind fun d=>(g d.2).bind fun e=>(l ⟨b.1,c.1,Io a.1,Io (Fg a.1),Io (IAA a.1),Io (FN (Xm a.1)),d.1,e.1⟩).bind fun f=>cond e.2.fBad (some (⟨0,0,false,false,false,false,IK,0⟩,false)) (cond (!f.2) (some (⟨0,0,false,false,false,false,IK,0⟩,false)) (cond (!(Jc f.1 h)) (some (⟨0,0,false,false,false,false,IK,0⟩,false)) (some (⟨b.1,c.1,Io a.1,Io (Fg a.1),Io (IAA a.1),Io (FN (Xm a.1)),d.1,e.1⟩,true)))))
def L6:J9:=CAe QAA Dx BAJ LAA
def JA6:fK:=fy0 u1 L6 cv7 cv27 [VAq,IA6,YBL,UAc] Tryz.func143 CAe
def KA6:AAH:=fun a=>mk (some ⟨0,a.fKind,Qe a,Bd a,false,Ad a,Lc a,0⟩)
def XAq:AAH:=KA6
def ZBL:fK:=fy0 u1 XAq cv21 cv21 [] Tryz.func144 KA6
def YAq (h:Ky) (i:Og) (j:J9) (l:AAH) (g:H9):Fh:=fun a c=>mk ((h a).bind fun f=>(i f c.fText).bind fun b=>(j b.1).bind fun d=>(l d.1).bind fun e=>cond b.2 (VZ (g a c e d.2)) (VZ (g a c e false)))
def DAe:Fh:=YAq AAE XAd L6 XAq DAR
def ABM:fK:=fy0 u2 DAe cv68 cv64 [BAq,XBL,JA6,ZBL,GA6] Tryz.func81 YAq
def ZAq (d:Yn):BAH:=fun a b=>mk ((d a).bind fun c=>UZ (!c) (some false) (UZ (b == 1) (some (!(Qe a))) (UZ (b == 2) (UZ (!(Bd a)) (some (a.fKind != 2)) (some false)) (UZ (b == 3) (some (Ld a)) (UZ (b == 4) (some (Ad a)) (some (b == 5)))))))
def EAe:BAH:=ZAq F6
def BBM:fK:=fy0 u2 EAe cv76 cv1 [WAP] Tryz.func145 ZAq
inductive HAR where
 |c0 (a:Int) (b:SBox) (d:SThing)
def CBM:HAR→lQ
 |.c0 d a b=>(tdo Tryz.f201 208,[vp 2 128,vp 3 192,vi 5 d],[(128,.var [.str a.fKey,.bool a.fUp,.rsl 116 a.fDisk.fFiles,.str a.fBook.fWord,li a.fBook.fTries,.rsl 45 a.fBook.fThings,li a.fBook.fLast,.str a.fBook.fChain,li a.fBook.fCount,.rsl 58 a.fSessions,.rsl 126 a.fLives,li a.fOpened]),(192,.var [li b.fId,li b.fKind,.bool b.fHidden,.bool b.fFixed,.bool b.fSigns,.bool b.fWraps,.str b.fValue,li b.fNext])])
def AAr (k:kS HAR Int):GAb:=fun a b=>k (.c0 0 a b)
def FAe (k:kS HAR Int):kS HAR Int
 |.c0 a b c=>mk (cond (Gh a (Ko b)) (cond (Ba a (Ko b)) (cond ((Jp b.fLives a).fId == c.fId) (cond (Ba a (Ko b)) (some (Jp b.fLives a).fNext) none) (k (.c0 (NM a) b c))) none) (some c.fNext))
def CAJ:kN HAR Int
 |0,_=>none
 |m+1,s=>FAe (CAJ m) s
def IAR:GAb:=AAr (CAJ gas)
def LA6:fK:=fy u2 IAR cv77 cv20 [] Tryz.func201 CBM FAe AAr CAJ
def BAr (c:LZ):Jy:=fun b d=>mk ((c d).bind fun a=>Nc (FZ b a) (Nc (FZ (b++a) UAH) (some ((b++a)++UAH))))
def GAe:Jy:=BAr Ij
def DBM:fK:=fy0 u2 GAe cv13 cv7 [G6] Tryz.func258 BAr
def CAr (b:NZ):NZ:=fun c=>mk ((b c).bind fun a=>Nc ((Ud Ea Np) && (decide (4≤(TT a)))) (some (Rq a Np)))
def Jr:NZ:=CAr Rh
def JAR:fK:=fy0 u1 Jr cv7 cv7 [Hr] Tryz.func330 CAr
inductive KAR where
 |c0 (a:ByteArray) (b d:Int) (e:(List ByteArray))
def EBM:KAR→lQ
 |.c0 a b d e=>(tdo Tryz.f301 464,[vs 0 a,vi 1 b,vo 5 368,vi 6 d],[(368,.sl 9 e)])
def DAr (c:LZ) (d:NZ) (k:kS KAR (List ByteArray)):Ny:=fun a b=>k (.c0 a b 0 [])
def HAe (a:LZ) (b:NZ) (k:kS KAR (List ByteArray)):kS KAR (List ByteArray)
 |.c0 d h f g=>mk (cond (f<10) ((a h).bind fun c=>cond (FZ d c) ((a f).bind fun e=>cond (Bf d c e) (cond (FZ ((d++c)++e) (Qb ⟨#[111]⟩)) ((b (((d++c)++e)++(Qb ⟨#[111]⟩))).bind fun i=>cond (Xl g) (k (.c0 d h (NM f) (g++[i]))) none) none) none) none) (some g))
def DAE:kN KAR (List ByteArray)
 |0,_=>none
 |m+1,s=>HAe Ij Jr (DAE m) s
def DAJ:Ny:=DAr Ij Jr (DAE gas)
def MA6:fK:=fy u2 DAJ cv13 cv78 [G6,JAR] Tryz.func301 EBM HAe DAr DAE
inductive LAR where
 |c0 (a:ByteArray) (b d:Int) (e f g:Int)
def FBM:LAR→lQ
 |.c0 a b d e f g=>(tdo Tryz.f329 208,[vs 0 a,vi 1 b,vi 2 d,vi 3 e,vi 4 f,vi 11 g],[])
def EAr (f:LZ) (g:NZ) (k:kS LAR ByteArray):Wu:=fun a b c d e=>k (.c0 a b c d e 0)
def IAe (a:LZ) (b:NZ) (k:kS LAR ByteArray):kS LAR ByteArray
 |.c0 g i j l h e=>mk (cond (MZ e h) (cond (e<15) ((a i).bind fun c=>(a j).bind fun d=>cond (FZ c d) ((a (Va (l.tmod 256) e)).bind fun f=>cond (Bf c d f) (cond (Bf (c++d) f g) ((b (((c++d)++f)++g)).bind fun m=>k (.c0 m i j l h (NM e))) none) none) none) (some g)) (some g))
def EAJ:kN LAR ByteArray
 |0,_=>none
 |m+1,s=>IAe Ij Jr (EAJ m) s
def EAE:Wu:=EAr Ij Jr (EAJ gas)
def NA6:fK:=fy u5 EAE cv79 cv7 [G6,JAR] Tryz.func329 FBM IAe EAr EAJ
inductive MAR where
 |c0 (a:(List ByteArray)) (b:Int) (d:ByteArray) (e:Int)
def GBM:MAR→lQ
 |.c0 a b d e=>(tdo Tryz.f327 976,[vr 0 9 a,vi 1 b,vs 5 d,vi 6 e],[])
def FAr (c:Wu) (d:NZ) (k:kS MAR ByteArray):L9:=fun a b=>mk (cond ((Mc a) != 10) Gv (k (.c0 a b IK 0)))
def JAe (a:Wu) (b:NZ) (k:kS MAR ByteArray):kS MAR ByteArray
 |.c0 d g f c=>mk (cond (c<10) (cond (Po c d) ((a (Me d c IK) g c 0 15).bind fun e=>cond (FZ f e) (k (.c0 d g (f++e) (NM c))) none) none) (Pg (b f)))
def FAJ:kN MAR ByteArray
 |0,_=>none
 |m+1,s=>JAe EAE Jr (FAJ m) s
def NAR:L9:=FAr EAE Jr (FAJ gas)
def HBM:fK:=fy u2 NAR cv80 cv7 [NA6,JAR] Tryz.func327 GBM JAe FAr FAJ
inductive OAR where
 |c0 (a:ByteArray) (b:Int) (d:(List ByteArray))
def IBM:OAR→lQ
 |.c0 a b d=>(tdo Tryz.f299 464,[vs 0 a,vo 3 240,vi 4 b],[(240,.sl 9 d)])
def GAr (b:Ny) (c:L9) (k:kS OAR (List ByteArray)):N9:=fun a=>k (.c0 a 0 [])
def KAe (a:Ny) (b:L9) (k:kS OAR (List ByteArray)):kS OAR (List ByteArray)
 |.c0 f c d=>mk (cond (c<4) ((a f c).bind fun e=>(b e c).bind fun g=>cond (Xl d) (k (.c0 f (NM c) (d++[g]))) none) (some d))
def GAJ:kN OAR (List ByteArray)
 |0,_=>none
 |m+1,s=>KAe DAJ NAR (GAJ m) s
def PAR:N9:=GAr DAJ NAR (GAJ gas)
def OA6:fK:=fy u1 PAR cv7 cv78 [MA6,HBM] Tryz.func299 IBM KAe GAr GAJ
def HAr (e:LZ) (h:NZ):O9:=fun f g c d=>mk ((e f).bind fun a=>(e g).bind fun b=>Nc (FZ a b) (Nc (Bf a b c) (Nc (Bf (a++b) c d) (Nc (FZ (((a++b)++c)++d) (Qb ⟨#[110]⟩)) (Pg (h ((((a++b)++c)++d)++(Qb ⟨#[110]⟩))))))))
def RAA:O9:=HAr Ij Jr
def JBM:fK:=fy0 u4 RAA cv81 cv7 [G6,JAR] Tryz.func340 HAr
inductive QAR where
 |c0 (a:Int) (b:(List ByteArray)) (d:Int) (e:(List ByteArray))
def KBM:QAR→lQ
 |.c0 a b d e=>(tdo Tryz.f326 464,[vi 0 a,vr 1 9 b,vo 5 368,vi 6 d],[(368,.sl 9 e)])
def LAe (c:O9) (k:kS QAR (List ByteArray)):Xu:=fun a b=>k (.c0 a b 0 [])
def RAR (a:O9) (k:kS QAR (List ByteArray)):kS QAR (List ByteArray)
 |.c0 f c b d=>mk (cond (MZ (Ui b) (Mc c)) (cond (RZ (FN (2*b)) (Mc c)) (cond (RZ (Ui b) (Mc c)) ((a f b (c.getD (Fb (2*b)) Oo) (Me c (Ui b) IK)).bind fun e=>cond (Xl d) (k (.c0 f c (NM b) (d++[e]))) none) none) none) (some d))
def SAA:kN QAR (List ByteArray)
 |0,_=>none
 |m+1,s=>RAR RAA (SAA m) s
def O6:Xu:=LAe RAA (SAA gas)
def PA6:fK:=fy u2 O6 cv82 cv78 [JBM] Tryz.func326 KBM RAR LAe SAA
inductive SAR where
 |c0 (a:(List ByteArray)) (b:Int)
 |c1 (b:Int) (a:(List ByteArray))
def LBM:SAR→lQ
 |.c0 a b=>(tdo Tryz.f298 464,[vr 0 9 a,vi 3 b],[])
 |.c1 b a=>(tdo Tryz.f298 464,[vo 0 48,vi 3 b],[(48,.sl 9 a)])
def IAr (b:Xu) (k:kS SAR ByteArray):CAH:=fun a=>mk (cond ((Mc a) != 4) Gv (k (.c0 a 1)))
def MAe (a:Xu) (k:kS SAR ByteArray):kS SAR ByteArray
 |.c0 d b=>mk (cond (b≤2) ((a b d).bind fun c=>k (.c1 (NM b) c)) (HAP d))
 |.c1 b d=>mk (cond (b≤2) ((a b d).bind fun c=>k (.c1 (NM b) c)) (HAP d))
def HAJ:kN SAR ByteArray
 |0,_=>none
 |m+1,s=>MAe O6 (HAJ m) s
def NAe:CAH:=IAr O6 (HAJ gas)
def MBM:fK:=fy u1 NAe cv83 cv7 [PA6] Tryz.func298 LBM MAe IAr HAJ
def JAr (b:N9) (d:CAH):NZ:=fun c=>mk ((b c).bind fun a=>Pg (d a))
def TAR:NZ:=JAr PAR NAe
def QA6:fK:=fy0 u1 TAR cv7 cv7 [OA6,MBM] Tryz.func259 JAr
inductive IAJ where
 |c0 (a:ByteArray) (b d:Int) (e:(List Int))
def NBM:IAJ→lQ
 |.c0 a b d e=>(tdo Tryz.f328 2000,[vs 3 a,vo 4 304,vi 5 b,vi 6 d],[(304,.sl 3 e)])
def KAr (b:NZ) (k:kS IAJ (List Int)):Ag:=fun c=>(b c).bind fun a=>k (.c0 a 0 0 [])
def OAe (a:NZ) (k:kS IAJ (List Int)):kS IAJ (List Int)
 |.c0 c e b d=>mk (cond (b<4) (cond (RZ b (TT c)) (cond (RZ b (TT c)) (cond (Nb ((d.length+2)*8)) (cond (RZ b (TT c)) (cond (RZ b (TT c)) (k (.c0 c (Ze (Ze (FN (e+30)) (MAD (Ri c b))) ((Ri c b).tmod 16)) (NM b) (d++[MAD (Ri c b),(Ri c b).tmod 16]))) none) none) none) none) none) (Ug (Nb ((d.length+2)*8)) (Oc (d++[MAD e,e.tmod 16]))))
def FAE:kN IAJ (List Int)
 |0,_=>none
 |m+1,s=>OAe Jr (FAE m) s
def UAR:Ag:=KAr Jr (FAE gas)
def OBM:fK:=fy u1 UAR cv7 cv84 [JAR] Tryz.func328 NBM OAe KAr FAE
inductive JAJ where
 |c0 (a:(List ByteArray)) (b d:Int) (e:(List ByteArray)) (f:(List Int))
def PBM:JAJ→lQ
 |.c0 a b d e f=>(tdo Tryz.f300 2000,[vr 0 9 a,vi 1 b,vo 7 496,vo 8 560,vi 9 d],[(496,.sl 9 e),(560,.sl 3 f)])
def LAr (c:Ag) (f:Wu) (k:kS JAJ (List ByteArray)):DAH:=fun a e d=>mk (cond ((Mc a) != 10) (some []) ((c d).bind fun b=>k (.c0 a e 0 [] b)))
def MAr (a:Ag) (b:Wu) (k:kS JAJ (List ByteArray)):kS JAJ (List ByteArray)
 |.c0 d h c f e=>mk (cond (c<10) (cond (Po c d) (cond (Qa c e) ((b (Me d c IK) h c 0 (JZ e c)).bind fun g=>cond (Xl f) (k (.c0 d h (NM c) (f++[g]) e)) none) none) none) (some f))
def WAR:kN JAJ (List ByteArray)
 |0,_=>none
 |m+1,s=>MAr UAR EAE (WAR m) s
def PAe:DAH:=LAr UAR EAE (WAR gas)
def QBM:fK:=fy u3 PAe cv85 cv78 [OBM,NA6] Tryz.func300 PBM MAr LAr WAR
inductive XAR where
 |c0 (a:(List ByteArray)) (b d:Int) (e:(List ByteArray))
 |c1 (b d:Int) (a e:(List ByteArray))
def RBM:XAR→lQ
 |.c0 a b d e=>(tdo Tryz.f302 976,[vr 0 9 a,vi 1 b,vo 5 368,vi 6 d],[(368,.sl 9 e)])
 |.c1 b d a e=>(tdo Tryz.f302 976,[vo 0 48,vi 1 b,vo 5 368,vi 6 d],[(48,.sl 9 a),(368,.sl 9 e)])
def NAr (d:Ja) (e:Xu) (k:kS XAR (List ByteArray)):EAH:=fun a c=>mk (cond ((Mc a) != 4) (some []) ((d c 0 3).bind fun b=>cond (!b) (some []) (k (.c0 a c 1 []))))
def QAe (a:Ja) (b:Xu) (k:kS XAR (List ByteArray)):kS XAR (List ByteArray)
 |.c0 d c e f=>mk (cond (e≤2) (cond (Io c) (cond (RZ (Um c) (Mc d)) (cond (Xl f) ((b e d).bind fun g=>k (.c1 (Fg c) (NM e) g (f++[d.getD (Fb (c - 1)) Oo]))) none) none) (cond (RZ (NM c) (Mc d)) (cond (Xl f) ((b e d).bind fun h=>k (.c1 (Fg c) (NM e) h (f++[Me d (NM c) IK]))) none) none)) (some f))
 |.c1 c e d f=>mk (cond (e≤2) (cond (Io c) (cond (RZ (Um c) (Mc d)) (cond (Xl f) ((b e d).bind fun g=>k (.c1 (Fg c) (NM e) g (f++[d.getD (Fb (c - 1)) Oo]))) none) none) (cond (RZ (NM c) (Mc d)) (cond (Xl f) ((b e d).bind fun h=>k (.c1 (Fg c) (NM e) h (f++[Me d (NM c) IK]))) none) none)) (some f))
def YAR:kN XAR (List ByteArray)
 |0,_=>none
 |m+1,s=>QAe Td O6 (YAR m) s
def RAe:EAH:=NAr Td O6 (YAR gas)
def SBM:fK:=fy u2 RAe cv80 cv78 [Ji,PA6] Tryz.func302 RBM QAe NAr YAR
def OAr (h:Ja) (i:Ny) (j:DAH) (m:N9) (n:EAH):FAH:=fun d a l=>mk ((h a 0 3).bind fun b=>cond (!b) (some (KAD,false)) ((i d a).bind fun c=>(j c a l).bind fun e=>(m d).bind fun f=>(n f a).bind fun g=>some (⟨a,e,g⟩,true)))
def ZAR:FAH:=OAr Td DAJ PAe PAR RAe
def TBM:fK:=fy0 u3 ZAR cv36 cv86 [Ji,MA6,QBM,OA6,SBM] Tryz.func260 OAr
def PAr (i:Ja) (j:Jy) (l:NZ) (g:FAH):GAH:=fun c a m=>mk ((i a 0 15).bind fun e=>cond (!e) (some (⟨KAD,IK,KAD⟩,false)) ((j c (IAA a)).bind fun b=>(l b).bind fun d=>(g b (a.tmod 4) m).bind fun f=>cond (FZ c Gp) ((g (c++Gp) (IAA a) d).bind fun h=>some (⟨h.1,d,f.1⟩,true)) none))
def SAe:GAH:=PAr Td GAe TAR ZAR
def UBM:fK:=fy0 u3 SAe cv36 cv87 [Ji,DBM,QA6,TBM] Tryz.func202 PAr
inductive GAE where
 |c0 (b:Int) (a:SSig)
 |c1 (d:Int) (a:SSig)
def VBM:GAE→lQ
 |.c0 b a=>(tdo Tryz.f303 464,[vp 1 64,vi 3 b],[(64,.var [li a.fLeaf,.rsl 9 a.fOnce,.rsl 9 a.fPath])])
 |.c1 d a=>(tdo Tryz.f303 976,[vp 1 64,vi 4 d],[(64,.var [li a.fLeaf,.rsl 9 a.fOnce,.rsl 9 a.fPath])])
def QAr (c:Ja) (k:kS GAE Bool):P9:=fun a=>mk ((c a.fLeaf 0 3).bind fun b=>cond (!b) (some false) (cond ((Mc a.fOnce) != 10) (some false) (cond ((Mc a.fPath) != 2) (some false) (k (.c0 0 a)))))
def AAS (a:Ja) (k:kS GAE Bool):kS GAE Bool
 |.c0 c b=>mk (cond (MZ c (Mc b.fOnce)) (cond (Po c b.fOnce) (cond ((TT (Me b.fOnce c IK)) != 4) (some false) (k (.c0 (NM c) b))) none) (k (.c1 0 b)))
 |.c1 b c=>mk (cond (MZ b (Mc c.fPath)) (cond (Po b c.fPath) (cond ((TT (Me c.fPath b IK)) != 4) (some false) (k (.c1 (NM b) c))) none) (some true))
def P6:kN GAE Bool
 |0,_=>none
 |m+1,s=>AAS Td (P6 m) s
def BAS:P9:=QAr Td (P6 gas)
def WBM:fK:=fy u1 BAS cv88 cv1 [Ji] Tryz.func303 VBM AAS QAr P6
inductive HAE where
 |c0 (a:ByteArray) (d:Int) (b:SSig)
 |c1 (a:ByteArray) (e:Int) (b:SSig)
def XBM:HAE→lQ
 |.c0 b d a=>(tdo Tryz.f261 976,[vp 1 64,vs 4 b,vi 5 d],[(64,.var [li a.fLeaf,.rsl 9 a.fOnce,.rsl 9 a.fPath])])
 |.c1 b e a=>(tdo Tryz.f261 2000,[vp 1 64,vs 4 b,vi 6 e],[(64,.var [li a.fLeaf,.rsl 9 a.fOnce,.rsl 9 a.fPath])])
def RAr (d:P9) (e:LZ) (k:kS HAE (ByteArray×Bool)):HAH:=fun a=>mk ((d a).bind fun b=>cond (!b) (EZ (IK,false)) ((e a.fLeaf).bind fun c=>k (.c0 c 0 a)))
def KAJ (a:P9) (b:LZ) (k:kS HAE (ByteArray×Bool)):kS HAE (ByteArray×Bool)
 |.c0 e c d=>mk (cond (c<10) (cond (Po c d.fOnce) (cond (FZ e (Me d.fOnce c IK)) (k (.c0 (e++(Me d.fOnce c IK)) (NM c) d)) none) none) (k (.c1 e 0 d)))
 |.c1 e c d=>mk (cond (Vw c) (cond (Po c d.fPath) (cond (FZ e (Me d.fPath c IK)) (k (.c1 (e++(Me d.fPath c IK)) (NM c) d)) none) none) (EZ (e,true)))
def Gz:kN HAE (ByteArray×Bool)
 |0,_=>none
 |m+1,s=>KAJ BAS Ij (Gz m) s
def TAe:HAH:=RAr BAS Ij (Gz gas)
def YBM:fK:=fy u1 TAe cv88 cv23 [WBM,G6] Tryz.func261 XBM KAJ RAr Gz
def SAr (d:HAH):IAH:=fun a=>mk ((d a.fTop).bind fun b=>(d a.fLow).bind fun c=>cond (!b.2) (EZ (IK,false)) (cond (!c.2) (EZ (IK,false)) (cond ((TT a.fRoot) != 4) (EZ (IK,false)) (Bc (FZ b.1 a.fRoot) (Bc (FZ (b.1++a.fRoot) c.1) (EZ ((b.1++a.fRoot)++c.1,true)))))))
def UAe:IAH:=SAr TAe
def ZBM:fK:=fy0 u1 UAe cv89 cv23 [YBM] Tryz.func203 SAr
def TAr (i:GAb) (l:G9) (m:GAH) (o:IAH) (g:PAO) (d:XAC):Yu:=fun j n a=>mk ((i j a).bind fun b=>cond (b == 16) (VZ (l 1 GAD)) ((m (Lc a) b n.fText).bind fun e=>(o e.1).bind fun c=>cond (b == a.fNext) (cond ((FN (a.fNext+3)) > 16) ((g ⟨a.fId,a.fKind,Qe a,Bd a,Ld a,Ad a,Lc a,16⟩).bind fun f=>VZ (d f c.1)) ((g ⟨a.fId,a.fKind,Qe a,Bd a,Ld a,Ad a,Lc a,FN (a.fNext+3)⟩).bind fun h=>VZ (d h c.1))) (VZ (d [] c.1))))
def VAe:Yu:=TAr IAR CAE SAe UAe VAd YAI
def ABN:fK:=fy0 u3 VAe cv90 cv64 [LA6,WAI,UBM,ZBM,OAq,AAR] Tryz.func146 TAr
inductive CAS where
 |c0 (a:ByteArray) (b:Int) (d:(List Int))
 |c1 (a:ByteArray) (b e f:Int) (d:(List Int))
def BBN:CAS→lQ
 |.c0 a b d=>(tdo Tryz.f341 464,[vs 0 a,vo 3 240,vi 4 b],[(240,.sl 234 d)])
 |.c1 a b e f d=>(tdo Tryz.f341 119376,[vs 0 a,vo 3 240,vi 4 b,(5,[.one (.int .u64 e)]),vi 6 f],[(240,.sl 234 d)])
def UAr (k:kS CAS (List Int)):Ag:=fun a=>k (.c0 a 0 [])
def DAS (k:kS CAS (List Int)):kS CAS (List Int)
 |.c0 b a c=>mk (cond (Ud (FN (a+8)) (TT b)) (k (.c1 b a 0 7 c)) (Oc c))
 |.c1 c b e a d=>mk (cond (Gt a) (cond (RZ (Va b a) (TT c)) (k (.c1 c b (Na ((Na (e*256))+(Na (bt c (Va b a))))) (Um a) d)) none) (cond (Tq d) (k (.c0 c (FN (b+8)) (d++[e]))) none))
def TAA:kN CAS (List Int)
 |0,_=>none
 |m+1,s=>DAS (TAA m) s
def LAJ:Ag:=UAr (TAA gas)
def RA6:fK:=fy u1 LAJ cv7 cv91 [] Tryz.func341 BBN DAS UAr TAA
inductive EAS where
 |c0 (a b d:Int) (e:(List Int))
def CBN:EAS→lQ
 |.c0 a b d e=>(tdo Tryz.f346 2000,[vo 1 112,vi 2 a,vi 3 b,vi 4 d],[(112,.sl 3 e)])
def SA6 (k:kS EAS (List Int)):Ol:=mk (k (.c0 1 0 0 (Vs (25:Int))))
def TA6 (k:kS EAS (List Int)):kS EAS (List Int)
 |.c0 c b a d=>mk (cond (a<24) (cond (Yb (Gj c b) d) (k (.c0 b (NAD c b) (NM a) (d.set (Fb (Gj c b)) ((Fg (FN ((NM a)*(FN (a+2))))).tmod 64)))) none) (Oc d))
def VAr:kN EAS (List Int)
 |0,_=>none
 |m+1,s=>TA6 (VAr m) s
def WAe:Ol:=SA6 (VAr gas)
def DBN:fK:=fy u0 WAe cv8 cv84 [] Tryz.func346 CBN TA6 SA6 VAr
inductive FAS where
 |c0 (a b:Int) (d:(List Int))
 |c1 (a b:Int) (e f g:Int) (d:(List Int))
def EBN:FAS→lQ
 |.c0 a b d=>(tdo Tryz.f347 976,[vo 1 112,vi 2 a,vi 3 b],[(112,.sl 234 d)])
 |.c1 a b e f g d=>(tdo Tryz.f347 500944,[vo 1 112,vi 2 a,vi 3 b,(4,[.one (.int .u64 e)]),(5,[.one (.int .u64 f)]),vi 6 g],[(112,.sl 234 d)])
def WAr (k:kS FAS (List Int)):Ol:=k (.c0 1 0 [])
def UA6 (k:kS FAS (List Int)):kS FAS (List Int)
 |.c0 c a b=>mk (cond (a<24) (k (.c1 c a 0 1 0 b)) (Oc b))
 |.c1 b e f a d c=>mk (cond (d<7) (cond (Io b) (cond ((FN (b*2))≥256) (k (.c1 (EAc ((FN (b*2)) - 256)) e (Na (f+a)) (Na ((Na (a*a))*2)) (NM d) c)) (k (.c1 (FN (b*2)) e (Na (f+a)) (Na ((Na (a*a))*2)) (NM d) c))) (cond ((FN (b*2))≥256) (k (.c1 (EAc ((FN (b*2)) - 256)) e f (Na ((Na (a*a))*2)) (NM d) c)) (k (.c1 (FN (b*2)) e f (Na ((Na (a*a))*2)) (NM d) c)))) (cond (Tq c) (k (.c0 b (NM e) (c++[f]))) none))
def XAr:kN FAS (List Int)
 |0,_=>none
 |m+1,s=>UA6 (XAr m) s
def GAS:Ol:=WAr (XAr gas)
def FBN:fK:=fy u0 GAS cv8 cv91 [] Tryz.func347 EBN UA6 WAr XAr
inductive IAS where
 |c0 (a b:Int) (d e:Int)
def GBN:IAS→lQ
 |.c0 a b d e=>(tdo Tryz.f349 464,[(0,[.one (.int .u64 a)]),vi 1 b,(5,[.one (.int .u64 d)]),vi 6 e],[])
def YAr (k:kS IAS Int):Qd:=fun a b=>k (.c0 a b 1 0)
def XAe (k:kS IAS Int):kS IAS Int
 |.c0 b c a d=>mk (cond (MZ d c) (k (.c0 b c (Na (a*2)) (NM d))) (cond (Ib c) (some b) (cond (!(Ib a)) (cond (!(Ib (Na ((Na ((9223372036854775808:Int).tdiv a))*2)))) (some (Na ((Na (b*a))+(Na (b.tdiv (Na ((Na ((9223372036854775808:Int).tdiv a))*2))))))) none) none)))
def MAJ:kN IAS Int
 |0,_=>none
 |m+1,s=>XAe (MAJ m) s
def NAJ:Qd:=YAr (MAJ gas)
def HBN:fK:=fy u2 NAJ cv92 cv93 [] Tryz.func349 GBN XAe YAr MAJ
inductive JAS where
 |c0 (d e:(List Int)) (a j:Int) (f:(List Int))
 |c1 (d e:(List Int)) (a g:Int) (f b:(List Int))
 |c2 (d e:(List Int)) (a g:Int) (l n:Int) (f b:(List Int))
 |c3 (a h:Int) (b i:(List Int))
 |c4 (a h o:Int) (b i:(List Int))
def IBN:JAS→lQ
 |.c0 d e a j f=>(tdo Tryz.f348 464,[vr 0 234 d,vr 1 3 e,(2,[.one (.int .u64 a)]),vo 7 496,vi 8 j],[(496,.sl 234 f)])
 |.c1 d e a g f b=>(tdo Tryz.f348 2000,[vr 0 234 d,vr 1 3 e,(2,[.one (.int .u64 a)]),vo 7 496,vo 9 624,vi 10 g],[(496,.sl 234 f),(624,.sl 234 b)])
 |.c2 d e a g l n f b=>(tdo Tryz.f348 256304,[vr 0 234 d,vr 1 3 e,(2,[.one (.int .u64 a)]),vo 7 496,vo 9 624,vi 10 g,(11,[.one (.int .u64 l)]),vi 12 n],[(496,.sl 234 f),(624,.sl 234 b)])
 |.c3 a h b i=>(tdo Tryz.f348 8144,[(2,[.one (.int .u64 a)]),vo 9 624,vo 13 880,vi 14 h],[(624,.sl 234 b),(880,.sl 234 i)])
 |.c4 a h o b i=>(tdo Tryz.f348 521360,[(2,[.one (.int .u64 a)]),vo 9 624,vo 13 880,vi 14 h,vi 15 o],[(624,.sl 234 b),(880,.sl 234 i)])
def ZAr (d:Qd) (k:kS JAS (List Int)):HAb:=fun a b c=>k (.c0 a b c 0 [0,0,0,0,0])
def Gx (a:Qd) (k:kS JAS (List Int)):kS JAS (List Int)
 |.c0 c e f b d=>mk (cond (b<5) (cond (Qa b c) (cond (Yb (b+5) c) (cond (Yb (b+10) c) (cond (Yb (b+15) c) (cond (Yb (b+20) c) (cond (Qa b d) (k (.c0 c e f (NM b) (d.set (GZ b) (Na (Dh Ce (Na (Dh Ce (Na (Dh Ce (Na (Dh Ce (JZ c b) (Uc c (b+5)))) (Uc c (b+10)))) (Uc c (b+15)))) (Uc c (b+20))))))) none) none) none) none) none) none) (k (.c1 c e f 0 d (Vs (25:Int)))))
 |.c1 g h e b c f=>mk (cond (b<5) (cond (RZ (Eh (FN (b+4))) (IZ c)) (cond (RZ (Eh (NM b)) (IZ c)) ((a (JZ c (Eh (NM b))) 1).bind fun d=>k (.c2 g h e b (Na (Dh Ce (JZ c (Eh (FN (b+4)))) d)) 0 c f)) none) none) (k (.c3 e 0 f (Vs (25:Int)))))
 |.c2 d e i c h b j f=>mk (cond (b<5) (cond (Yb (Gj c b) d) (cond (Yb (Gj c b) e) ((a (Na (Dh Ce (Uc d (Gj c b)) h)) (Uc e (Gj c b))).bind fun g=>cond (Yb (Gj b (NAD c b)) f) (k (.c2 d e i c h (NM b) j (f.set (Fb (Gj b (NAD c b))) g))) none) none) none) (k (.c1 d e i (NM c) j f)))
 |.c3 d c e b=>mk (cond (c<5) (k (.c4 d c 0 e b)) (Ug (Xw b) (Ug (Xw b) (Oc (b.set (GZ Ea) (Na (Dh Ce (JZ b Ea) d)))))))
 |.c4 f c b d e=>mk (cond (b<5) (cond (Yb (Gj c b) d) (cond (Yb ((Eh (NM c))+(FN (5*b))) d) (cond (Yb ((Eh (FN (c+2)))+(FN (5*b))) d) (cond (Yb (Gj c b) e) (k (.c4 f c (NM b) d (e.set (Fb (Gj c b)) (Na (Dh Ce (Uc d (Gj c b)) (Na (Ap Ce (Na (18446744073709551615 - (Uc d ((Eh (NM c))+(FN (5*b)))))) (Uc d ((Eh (FN (c+2)))+(FN (5*b))))))))))) none) none) none) none) (k (.c3 f (NM c) d e)))
def Ym:kN JAS (List Int)
 |0,_=>none
 |m+1,s=>Gx NAJ (Ym m) s
def KAS:HAb:=ZAr NAJ (Ym gas)
def JBN:fK:=fy u3 KAS cv94 cv91 [HBN] Tryz.func348 IBN Gx ZAr Ym
inductive LAS where
 |c0 (a:Int) (b d e:(List Int))
def KBN:LAS→lQ
 |.c0 a b d e=>(tdo Tryz.f342 976,[vo 0 48,vo 3 240,vo 4 304,vi 5 a],[(48,.sl 234 b),(240,.sl 3 d),(304,.sl 234 e)])
def AAs (c d:Ol) (f:HAb) (k:kS LAS (List Int)):Ed:=fun e=>c.bind fun a=>d.bind fun b=>k (.c0 0 e a b)
def BAs (a b:Ol) (c:HAb) (k:kS LAS (List Int)):kS LAS (List Int)
 |.c0 d g h e=>mk (cond (d<24) (cond (Qa d e) ((c g h (JZ e d)).bind fun f=>k (.c0 (NM d) f h e)) none) (Oc g))
def MAS:kN LAS (List Int)
 |0,_=>none
 |m+1,s=>BAs WAe GAS KAS (MAS m) s
def OAJ:Ed:=AAs WAe GAS KAS (MAS gas)
def VA6:fK:=fy u1 OAJ cv91 cv91 [DBN,FBN,JBN] Tryz.func342 KBN BAs AAs MAS
inductive NAS where
 |c0 (a:(List Int)) (b:Int) (d:(List Int))
 |c1 (a:(List Int)) (b e f:Int) (d:(List Int))
def LBN:NAS→lQ
 |.c0 a b d=>(tdo Tryz.f343 464,[vr 0 234 a,vo 3 240,vi 4 b],[(240,.sl 5 d)])
 |.c1 a b e f d=>(tdo Tryz.f343 59696,[vr 0 234 a,vo 3 240,vi 4 b,(5,[.one (.int .u64 e)]),vi 6 f],[(240,.sl 5 d)])
def CAs (k:kS NAS ByteArray):Bh:=fun a=>k (.c0 a 0 [])
def PAJ (k:kS NAS ByteArray):kS NAS ByteArray
 |.c0 b a c=>mk (cond (MZ a (IZ b)) (cond (Qa a b) (k (.c1 b a (JZ b a) 0 c)) none) (Bl c))
 |.c1 c d e b a=>mk (cond (b<8) (cond (Qm a) (k (.c1 c d (Na (e.tdiv 256)) (NM b) (a++[w8 (e.tmod 256)]))) none) (k (.c0 c (NM d) a)))
def U6:kN NAS ByteArray
 |0,_=>none
 |m+1,s=>PAJ (U6 m) s
def QAJ:Bh:=CAs (U6 gas)
def WA6:fK:=fy u1 QAJ cv95 cv7 [] Tryz.func343 LBN PAJ CAs U6
inductive OAS where
 |c0 (a:Int) (b d:(List Int))
 |c1 (a e:Int) (b d:(List Int))
 |c2 (a e f:Int) (b d g:(List Int))
def MBN:OAS→lQ
 |.c0 a b d=>(tdo Tryz.f331 480,[vi 1 a,vo 7 496,vo 8 560],[(496,.sl 234 b),(560,.sl 5 d)])
 |.c1 a e b d=>(tdo Tryz.f331 4048,[vi 1 a,vo 7 496,vo 8 560,vi 9 e],[(496,.sl 234 b),(560,.sl 5 d)])
 |.c2 a e f b d g=>(tdo Tryz.f331 1036880,[vi 1 a,vo 7 496,vo 8 560,vi 9 e,vo 10 688,vi 11 f],[(496,.sl 234 b),(560,.sl 5 d),(688,.sl 234 g)])
def DAs (d:Ag) (e:Ed) (f:Bh) (k:kS OAS ByteArray):JAH:=fun a b c=>mk (cond (Qq a) (cond (Qm (Wj a)) (k (.c0 b (Vs (25:Int)) ((Wj a)++[c]))) none) none)
def UAA (a:Ag) (b:Ed) (c:Bh) (k:kS OAS ByteArray):kS OAS ByteArray
 |.c0 e f d=>mk (cond (!(Ib e)) (cond (((IZ d).tmod e) != 0) (cond (Qm d) (k (.c0 e f (d++[Ea]))) none) (cond (Yb ((IZ d) - 1) d) (cond (Yb ((IZ d) - 1) d) (k (.c1 e 0 f (NAn d))) none) none)) none)
 |.c1 f d h e=>mk (cond (MZ d (IZ e)) (cond (Tj d (Va d f) (IZ e)) ((a (ofBytes ((e.drop (GZ d)).take ((Fb (d+f)) - (GZ d))))).bind fun g=>k (.c2 f d 0 h e g)) none) (Pg (c h)))
 |.c2 g h d e i f=>mk (cond (MZ d (IZ f)) (cond (Qa d e) (cond (Qa d f) (cond (Qa d e) (k (.c2 g h (NM d) (e.set (GZ d) (Na (Dh Ce (JZ e d) (JZ f d)))) i f)) none) none) none) ((b e).bind fun j=>k (.c1 g (Va h g) j i)))
def Qp:kN OAS ByteArray
 |0,_=>none
 |m+1,s=>UAA LAJ OAJ QAJ (Qp m) s
def PAS:JAH:=DAs LAJ OAJ QAJ (Qp gas)
def NBN:fK:=fy u3 PAS cv96 cv7 [RA6,VA6,WA6] Tryz.func331 MBN UAA DAs Qp
def EAs (b:JAH):Oy:=fun c=>(b c 168 31).bind fun a=>some ⟨a,0⟩
def RAJ:Oy:=EAs PAS
def XA6:fK:=fy0 u1 RAJ cv7 cv97 [NBN] Tryz.func304 EAs
def FAs (d:Ag) (e:Ed) (f:Bh):NZ:=fun a=>mk (cond ((TT a) != 200) (some a) ((d a).bind fun b=>(e b).bind fun c=>Pg (f c)))
def QAS:NZ:=FAs LAJ OAJ QAJ
def OBN:fK:=fy0 u1 QAS cv7 cv7 [RA6,VA6,WA6] Tryz.func332 FAs
inductive RAS where
 |c0 (a:Int) (b d:SStream) (e:(List Int))
def PBN:RAS→lQ
 |.c0 d a b e=>(tdo Tryz.f305 480,[vi 1 d,vp 2 128,vp 4 256,vo 6 432],[(128,.var [.str a.fState,li a.fAt]),(256,.var [.str b.fState,li b.fAt]),(432,.sl 5 e)])
def GAs (c:Ja) (f:NZ) (k:kS RAS (SStream×ByteArray)):Py:=fun a d=>mk ((c d 0 4000).bind fun b=>cond (!b) (some (a,IK)) (cond ((TT a.fState) != 200) (some (a,IK)) ((c a.fAt 0 168).bind fun e=>cond (!e) (some (a,IK)) (k (.c0 d a ⟨IK,0⟩ [])))))
def HAs (a:Ja) (b:NZ) (k:kS RAS (SStream×ByteArray)):kS RAS (SStream×ByteArray)
 |.c0 e c g d=>mk (cond (MZ (IZ d) e) (cond (c.fAt == 168) ((b c.fState).bind fun f=>cond (Wl > (Ze e (IZ d))) (cond (((decide (Ea≤Ea)) && (Ej (FN (0+(Ze e (IZ d)))))) && (Ud (FN (0+(Ze e (IZ d)))) (TT f))) (cond (Qq (Ii f Ea (0+(Ze e (IZ d))))) (cond (SAH d (Ii f Ea (0+(Ze e (IZ d))))) (k (.c0 e ⟨f,FN (0+(Ze e (IZ d)))⟩ g (d++(Wj (Ii f Ea (0+(Ze e (IZ d)))))))) none) none) none) (cond (((decide (Ea≤Ea)) && (Ej (FN (0+Wl)))) && (Ud (FN (0+Wl)) (TT f))) (cond (Qq (Ii f Ea (0+Wl))) (cond (SAH d (Ii f Ea (0+Wl))) (k (.c0 e ⟨f,FN (0+Wl)⟩ g (d++(Wj (Ii f Ea (0+Wl)))))) none) none) none)) (cond ((Ip c) > (Ze e (IZ d))) (cond (Tj c.fAt (Va c.fAt (Ze e (IZ d))) (TT c.fState)) (cond (Qq (Ii c.fState c.fAt (c.fAt+(Ze e (IZ d))))) (cond (SAH d (Ii c.fState c.fAt (c.fAt+(Ze e (IZ d))))) (k (.c0 e ⟨c.fState,Va c.fAt (Ze e (IZ d))⟩ g (d++(Wj (Ii c.fState c.fAt (c.fAt+(Ze e (IZ d)))))))) none) none) none) (cond (Tj c.fAt (Va c.fAt (Ip c)) (TT c.fState)) (cond (Qq (Ii c.fState c.fAt (c.fAt+(Ip c)))) (cond (SAH d (Ii c.fState c.fAt (c.fAt+(Ip c)))) (k (.c0 e ⟨c.fState,Va c.fAt (Ip c)⟩ g (d++(Wj (Ii c.fState c.fAt (c.fAt+(Ip c))))))) none) none) none))) (some (c,ofBytes d)))
def SAJ:kN RAS (SStream×ByteArray)
 |0,_=>none
 |m+1,s=>HAs Td QAS (SAJ m) s
def IAE:Py:=GAs Td QAS (SAJ gas)
def YA6:fK:=fy u2 IAE cv98 cv99 [Ji,OBN] Tryz.func305 PBN HAs GAs SAJ
inductive SAS where
 |c0 (b:ByteArray) (d:Int) (e:SStream) (a:(List Int))
 |c1 (a:(List Int))
def QBN:SAS→lQ
 |.c0 d e b a=>(tdo Tryz.f262 2000,[vo 7 496,vp 8 512,vs 9 d,vi 10 e],[(512,.var [.str b.fState,li b.fAt]),(496,.sl 3 a)])
 |.c1 a=>(tdo Tryz.f262 2016,[vo 7 496],[(496,.sl 3 a)])
def IAs (d:LZ) (h:Oy) (i:Py) (k:kS SAS (List Int)):Q9:=fun b f g=>mk ((d f).bind fun a=>cond (FZ b a) ((d g).bind fun c=>cond (Bf b a c) ((h ((b++a)++c)).bind fun e=>k (.c0 IK 0 e [])) none) none)
def YAe (a:LZ) (b:Oy) (c:Py) (k:kS SAS (List Int)):kS SAS (List Int)
 |.c0 g d h f=>mk (cond (d<4000) (cond (Ht (IZ f)) (cond (Ib (Ul d)) ((c h 168).bind fun e=>cond (RZ (Ul d) (TT e.2)) (cond (RZ (NM (Ul d)) (TT e.2)) (cond (RZ (NM (Ul d)) (TT e.2)) (cond (RZ (FN ((Ul d)+2)) (TT e.2)) (cond (JAA (CAD e d)) (cond (Tq f) (cond (JAA (YAO e d)) (cond (Ht (IZ (f++[CAD e d]))) (cond (Tq (f++[CAD e d])) (k (.c0 e.2 (NM d) e.1 ((f++[CAD e d])++[YAO e d]))) none) (k (.c0 e.2 (NM d) e.1 (f++[CAD e d])))) (k (.c0 e.2 (NM d) e.1 (f++[CAD e d])))) none) (cond (JAA (YAO e d)) (cond (Ht (IZ f)) (cond (Tq f) (k (.c0 e.2 (NM d) e.1 (f++[YAO e d]))) none) (k (.c0 e.2 (NM d) e.1 f))) (k (.c0 e.2 (NM d) e.1 f)))) none) none) none) none) (cond (RZ (Ul d) (TT g)) (cond (RZ (NM (Ul d)) (TT g)) (cond (RZ (NM (Ul d)) (TT g)) (cond (RZ (FN ((Ul d)+2)) (TT g)) (cond (JAA (EAD g d)) (cond (Tq f) (cond (JAA (ZAO g d)) (cond (Ht (IZ (f++[EAD g d]))) (cond (Tq (f++[EAD g d])) (k (.c0 g (NM d) h ((f++[EAD g d])++[ZAO g d]))) none) (k (.c0 g (NM d) h (f++[EAD g d])))) (k (.c0 g (NM d) h (f++[EAD g d])))) none) (cond (JAA (ZAO g d)) (cond (Ht (IZ f)) (cond (Tq f) (k (.c0 g (NM d) h (f++[ZAO g d]))) none) (k (.c0 g (NM d) h f))) (k (.c0 g (NM d) h f)))) none) none) none) none)) (k (.c1 f))) (k (.c1 f)))
 |.c1 d=>mk (cond (Ht (IZ d)) (cond (Tq d) (k (.c1 (d++[Ea]))) none) (Oc d))
def Hz:kN SAS (List Int)
 |0,_=>none
 |m+1,s=>YAe Ij RAJ IAE (Hz m) s
def V6:Q9:=IAs Ij RAJ IAE (Hz gas)
def RBN:fK:=fy u3 V6 cv35 cv84 [G6,XA6,YA6] Tryz.func262 QBN YAe IAs Hz
inductive TAS where
 |c0 (a:ByteArray) (b:Int) (d:(List (List Int)))
 |c1 (a:ByteArray) (b e:Int) (d:(List (List Int)))
def SBN:TAS→lQ
 |.c0 a b d=>(tdo Tryz.f204 464,[vs 0 a,vo 3 240,vi 4 b],[(240,.sl 80 d)])
 |.c1 a b e d=>(tdo Tryz.f204 29840,[vs 0 a,vo 3 240,vi 4 b,vi 5 e],[(240,.sl 80 d)])
def JAs (b:Q9) (k:kS TAS (List (List Int))):IAb:=fun a=>k (.c0 a 0 [])
def KAs (a:Q9) (k:kS TAS (List (List Int))):kS TAS (List (List Int))
 |.c0 d b c=>mk (cond (Vw b) (k (.c1 d b 0 c)) (some c))
 |.c1 c d b e=>mk (cond (Vw b) ((a c b d).bind fun f=>cond (Q5 e) (k (.c1 c d (NM b) (e++[f]))) none) (k (.c0 c (NM d) e)))
def ZAe:kN TAS (List (List Int))
 |0,_=>none
 |m+1,s=>KAs V6 (ZAe m) s
def UAS:IAb:=JAs V6 (ZAe gas)
def TBN:fK:=fy u1 UAS cv7 cv100 [RBN] Tryz.func204 SBN KAs JAs ZAe
def LAs (e:Ja) (f:Oy) (h:Py):S9:=fun g b=>mk ((e b 0 4000).bind fun a=>cond (!a) (EZ (IK,false)) ((f g).bind fun c=>(h c b).bind fun d=>EZ (d.2,true)))
def TAJ:S9:=LAs Td RAJ IAE
def UBN:fK:=fy0 u2 TAJ cv13 cv23 [Ji,XA6,YA6] Tryz.func266 LAs
inductive VAS where
 |c0 (a:ByteArray) (b:Int) (d:(List Int))
def VBN:VAS→lQ
 |.c0 a b d=>(tdo Tryz.f206 976,[vo 5 368,vs 6 a,vi 8 b],[(368,.sl 3 d)])
def MAs (d:LZ) (f:S9) (k:kS VAS (List Int)):Jw:=fun b e=>mk ((d e).bind fun a=>cond (FZ b a) ((f (b++a) 128).bind fun c=>k (.c0 c.1 0 [])) none)
def NAs (a:LZ) (b:S9) (k:kS VAS (List Int)):kS VAS (List Int)
 |.c0 d c e=>mk (cond (Ht c) (cond (RZ (Fg c) (TT d)) (cond (Io c) (cond (Tq e) (k (.c0 d (NM c) (e++[(SAn (MAD (Ri d (Fg c))) (Fg (MAD (Ri d (Fg c))))).tmod 3329]))) none) (cond (Tq e) (k (.c0 d (NM c) (e++[(SAn (Ri d (Fg c)) (Fg (Ri d (Fg c)))).tmod 3329]))) none)) none) (Oc e))
def UAJ:kN VAS (List Int)
 |0,_=>none
 |m+1,s=>NAs Ij TAJ (UAJ m) s
def X6:Jw:=MAs Ij TAJ (UAJ gas)
def WBN:fK:=fy u2 X6 cv13 cv84 [G6,UBN] Tryz.func206 VBN NAs MAs UAJ
inductive XAS where
 |c0 (a:(List Int)) (b:Int)
def XBN:XAS→lQ
 |.c0 a b=>(tdo Tryz.f263 464,[vr 0 3 a,vi 3 b],[])
def OAs (b:Ja) (k:kS XAS Bool):Sl:=fun a=>mk (cond ((IZ a) != 256) (some false) (k (.c0 a 0)))
def AAf (a:Ja) (k:kS XAS Bool):kS XAS Bool
 |.c0 c b=>mk (cond (MZ b (IZ c)) (cond (Qa b c) ((a (JZ c b) 0 3328).bind fun d=>cond (!d) (some false) (k (.c0 c (NM b)))) none) (some true))
def VAJ:kN XAS Bool
 |0,_=>none
 |m+1,s=>AAf Td (VAJ m) s
def Iz:Sl:=OAs Td (VAJ gas)
def BAf:fK:=fy u1 Iz cv101 cv1 [Ji] Tryz.func263 XBN AAf OAs VAJ
inductive YAS where
 |c0 (a b d:Int)
def YBN:YAS→lQ
 |.c0 a b d=>(tdo Tryz.f265 2000,[vi 0 a,vi 3 b,vi 4 d],[])
def PAs (k:kS YAS Int):Ac:=fun a=>mk (cond (Qh (a.tmod 128)) (k (.c0 (FN ((a.tmod 128)+128)) 0 0)) (k (.c0 (a.tmod 128) 0 0)))
def QAs (k:kS YAS Int):kS YAS Int
 |.c0 b c a=>mk (cond (a<7) (k (.c0 (Fg b) (Va (FN (2*c)) (b.tmod 2)) (NM a))) (some c))
def ZAS:kN YAS Int
 |0,_=>none
 |m+1,s=>QAs (ZAS m) s
def JAE:Ac:=PAs (ZAS gas)
def ZA6:fK:=fy u1 JAE cv20 cv20 [] Tryz.func265 YBN QAs PAs ZAS
inductive AAT where
 |c0 (a b d:Int)
def ZBN:AAT→lQ
 |.c0 a b d=>(tdo Tryz.f264 2016,[vi 0 a,vi 1 b,vi 5 d],[])
def RAs (d:Ja) (k:kS AAT Int):Qd:=fun b a=>mk ((d a 0 1000000000).bind fun c=>cond (!c) (some 0) (cond (Qh (b.tmod 3329)) (k (.c0 (FN ((b.tmod 3329)+3329)) a 1)) (k (.c0 (b.tmod 3329) a 1))))
def SAs (a:Ja) (k:kS AAT Int):kS AAT Int
 |.c0 b c d=>mk (cond (Yl c) (cond (Io c) (k (.c0 (CAA (b*b)) (Fg c) (DAD d b))) (k (.c0 (CAA (b*b)) (Fg c) d))) (some d))
def BAT:kN AAT Int
 |0,_=>none
 |m+1,s=>SAs Td (BAT m) s
def KAE:Qd:=RAs Td (BAT gas)
def AA7:fK:=fy u2 KAE cv102 cv20 [Ji] Tryz.func264 ZBN SAs RAs BAT
inductive CAT where
 |c0 (a b:Int) (d:(List Int))
 |c1 (a b e:Int) (d:(List Int))
 |c2 (a b:Int) (e f g:Int) (d:(List Int))
def ABO:CAT→lQ
 |.c0 a b d=>(tdo Tryz.f205 2000,[vo 3 240,vi 4 a,vi 5 b],[(240,.sl 3 d)])
 |.c1 a b e d=>(tdo Tryz.f205 128144,[vo 3 240,vi 4 a,vi 5 b,vi 6 e],[(240,.sl 3 d)])
 |.c2 a b e f g d=>(tdo Tryz.f205 32805488,[vo 3 240,vi 4 a,vi 5 b,vi 6 e,vi 7 f,vi 8 g],[(240,.sl 3 d)])
def TAs (c:Sl) (d:Ac) (e:Qd) (k:kS CAT (List Int)):Ed:=fun a=>mk ((c a).bind fun b=>cond (!b) (Oc []) (cond (Nb ((0+a.length)*8)) (k (.c0 1 128 a)) none))
def LAE (a:Sl) (b:Ac) (c:Qd) (k:kS CAT (List Int)):kS CAT (List Int)
 |.c0 f d e=>mk (cond (d≥2) (k (.c1 f d 0 e)) (Oc e))
 |.c1 e h d i=>mk (cond (Ht d) ((b e).bind fun f=>(c 17 f).bind fun g=>k (.c2 (NM e) h d g d i)) (k (.c0 e (Fg h) i)))
 |.c2 i e h g d f=>mk (cond (MZ d (Va h e)) (cond (Yb (d+e) f) (cond (Qa d f) (cond (Yb (d+e) f) (cond (Qa d (VAO f d e g)) (cond (Qa d (VAO f d e g)) (k (.c2 i e h g (NM d) ((VAO f d e g).set (GZ d) ((Va (JZ (VAO f d e g) d) (DAD g (Uc f (d+e)))).tmod 3329)))) none) none) none) none) none) (k (.c1 i e (Va h (FN (2*e))) f)))
def Kr:kN CAT (List Int)
 |0,_=>none
 |m+1,s=>LAE Iz JAE KAE (Kr m) s
def VAA:Ed:=TAs Iz JAE KAE (Kr gas)
def BA7:fK:=fy u1 VAA cv101 cv84 [BAf,ZA6,AA7] Tryz.func205 ABO LAE TAs Kr
inductive DAT where
 |c0 (a b d:Int)
def BBO:DAT→lQ
 |.c0 a b d=>(tdo Tryz.f306 464,[vi 0 a,vi 3 b,vi 4 d],[])
def UAs (k:kS DAT Int):Ac:=fun a=>k (.c0 a 1 0)
def CAf (k:kS DAT Int):kS DAT Int
 |.c0 b c a=>mk (cond (MZ a b) (k (.c0 b (FN (2*c)) (NM a))) (some c))
def WAJ:kN DAT Int
 |0,_=>none
 |m+1,s=>CAf (WAJ m) s
def WAA:Ac:=UAs (WAJ gas)
def CBO:fK:=fy u1 WAA cv20 cv20 [] Tryz.func306 BBO CAf UAs WAJ
inductive EAT where
 |c0 (a:(List Int)) (b h:Int)
 |c1 (a:(List Int)) (b d:Int) (e f:Int) (g:(List Int))
 |c2 (a:(List Int)) (b d:Int) (e f:Int) (g:(List Int))
def DBO:EAT→lQ
 |.c0 a b h=>(tdo Tryz.f267 464,[vr 0 3 a,vi 1 b,vi 6 h],[])
 |.c1 a b d e f g=>(tdo Tryz.f267 8144,[vr 0 3 a,vi 1 b,vo 7 496,vi 8 d,vi 9 e,vi 10 f],[(496,.sl 5 g)])
 |.c2 a b d e f g=>(tdo Tryz.f267 1042736,[vr 0 3 a,vi 1 b,vo 7 496,vi 8 d,vi 9 e,vi 10 f],[(496,.sl 5 g)])
def VAs (c:Ja) (e:Ac) (k:kS EAT (ByteArray×Bool)):SAm:=fun d b=>mk ((c b 1 12).bind fun a=>cond (!a) (EZ (IK,false)) (k (.c0 d b 0)))
def Nv (a:Ja) (b:Ac) (k:kS EAT (ByteArray×Bool)):kS EAT (ByteArray×Bool)
 |.c0 c e d=>mk (cond (MZ d (IZ c)) (cond (Qa d c) ((b e).bind fun f=>(a (JZ c d) 0 (Um f)).bind fun g=>cond (!g) (EZ (IK,false)) (k (.c0 c e (NM d)))) none) (k (.c1 c e 0 0 0 [])))
 |.c1 d h i f c e=>mk (cond (MZ c (IZ d)) (cond (Qa c d) ((b f).bind fun g=>k (.c2 d h (Va i (FN ((JZ d c)*g))) (Va f h) c e)) none) (cond (Yl f) (Bc (Qm e) (EZ (ofBytes (e++[w8 i]),true))) (EZ (ofBytes e,true))))
 |.c2 f g e c h d=>mk (cond (c≥8) (cond (Qm d) (k (.c2 f g (FN (e.tdiv 256)) (FN (c - 8)) h (d++[w8 (e.tmod 256)]))) none) (k (.c1 f g e c (NM h) d)))
def Vp:kN EAT (ByteArray×Bool)
 |0,_=>none
 |m+1,s=>Nv Td WAA (Vp m) s
def DAf:SAm:=VAs Td WAA (Vp gas)
def EBO:fK:=fy u2 DAf cv103 cv23 [Ji,CBO] Tryz.func267 DBO Nv VAs Vp
def WAs (d:Sl) (e:SAm):Bh:=fun b=>mk ((d b).bind fun a=>cond (!a) Gv ((e b 12).bind fun c=>some c.1))
def MAE:Bh:=WAs Iz DAf
def FBO:fK:=fy0 u1 MAE cv101 cv7 [BAf,EBO] Tryz.func207 WAs
inductive FAT where
 |c0 (a b:(List Int)) (d:Int) (e:(List Int))
def GBO:FAT→lQ
 |.c0 a b d e=>(tdo Tryz.f268 976,[vr 0 3 a,vr 1 3 b,vo 5 368,vi 6 d],[(368,.sl 3 e)])
def XAs (b:Sl) (f:Ac) (g:Qd) (k:kS FAT (List Int)):Qi:=fun c e=>mk ((b c).bind fun a=>cond (!a) (Oc []) ((b e).bind fun d=>cond (!d) (Oc []) (k (.c0 c e 0 []))))
def YAs (a:Sl) (b:Ac) (c:Qd) (k:kS FAT (List Int)):kS FAT (List Int)
 |.c0 e f d g=>mk (cond (d<128) ((b d).bind fun h=>(c 17 (Ui h)).bind fun i=>cond (RZ (Ui d) (IZ e)) (cond (RZ (Ui d) (IZ f)) (cond (Yb (2*d) e) (cond (Yb (2*d) f) (cond (Yb (2*d) e) (cond (RZ (Ui d) (IZ f)) (cond (RZ (Ui d) (IZ e)) (cond (Yb (2*d) f) (cond (Nb ((g.length+2)*8)) (k (.c0 e f (NM d) (g++[(Pm ((Uc e (2*d))*(Uc f (2*d))) ((DAD (JZ e (Ui d)) (JZ f (Ui d)))*i)).tmod 3329,(Pm ((Uc e (2*d))*(JZ f (Ui d))) ((JZ e (Ui d))*(Uc f (2*d)))).tmod 3329]))) none) none) none) none) none) none) none) none) none) (Oc g))
def XAJ:kN FAT (List Int)
 |0,_=>none
 |m+1,s=>YAs Iz JAE KAE (XAJ m) s
def GAT:Qi:=XAs Iz JAE KAE (XAJ gas)
def HBO:fK:=fy u2 GAT cv104 cv84 [BAf,ZA6,AA7] Tryz.func268 GBO YAs XAs XAJ
inductive IAT where
 |c0 (a b:(List Int)) (d:Int) (e:(List Int))
def IBO:IAT→lQ
 |.c0 a b d e=>(tdo Tryz.f208 464,[vr 0 3 a,vr 1 3 b,vo 5 368,vi 6 d],[(368,.sl 3 e)])
def ZAs (c:Sl) (k:kS IAT (List Int)):Qi:=fun a b=>k (.c0 a b 0 [])
def AAt (a:Sl) (k:kS IAT (List Int)):kS IAT (List Int)
 |.c0 d e b c=>mk (cond (Ht b) ((a d).bind fun f=>cond f ((a e).bind fun g=>cond g (cond (Qa b d) (cond (Qa b e) (cond (Tq c) (k (.c0 d e (NM b) (c++[(Va (JZ d b) (JZ e b)).tmod 3329]))) none) none) none) (Oc c)) (Oc c)) (Oc c))
def YAJ:kN IAT (List Int)
 |0,_=>none
 |m+1,s=>AAt Iz (YAJ m) s
def XAA:Qi:=ZAs Iz (YAJ gas)
def CA7:fK:=fy u2 XAA cv104 cv84 [BAf] Tryz.func208 IBO AAt ZAs YAJ
inductive JAT where
 |c0 (a:(List (List Int))) (b:(List (List Int))) (d:Int) (e:(List Int))
def JBO:JAT→lQ
 |.c0 a b d e=>(tdo Tryz.f209 464,[vr 0 80 a,vr 1 80 b,vo 5 368,vi 6 d],[(368,.sl 3 e)])
def BAt (c d:Qi) (k:kS JAT (List Int)):Zu:=fun a b=>mk (k (.c0 a b 0 U5))
def EAf (a b:Qi) (k:kS JAT (List Int)):kS JAT (List Int)
 |.c0 d e c h=>mk (cond (Gh c d.length) (cond (Ba c d.length) (cond (Ba c e.length) ((a (d.getD (GZ c) []) (e.getD (GZ c) [])).bind fun f=>(b h f).bind fun g=>k (.c0 d e (NM c) g)) none) none) (Oc h))
def ZAJ:kN JAT (List Int)
 |0,_=>none
 |m+1,s=>EAf GAT XAA (ZAJ m) s
def Jz:Zu:=BAt GAT XAA (ZAJ gas)
def DA7:fK:=fy u2 Jz cv105 cv84 [HBO,CA7] Tryz.func209 JBO EAf BAt ZAJ
inductive KAT where
 |c0 (a b:ByteArray) (d e f:ByteArray) (j:Int) (g:SPair) (h:(List (List Int))) (i:(List (List Int)))
 |c1 (a b:ByteArray) (d e f:ByteArray) (l:Int) (g:SPair) (h:(List (List Int))) (i:(List (List Int)))
def LBO:KAT→lQ
 |.c0 b d e f g j a h i=>(tdo Tryz.f147 65488,[vp 2 128,vs 4 b,vs 5 d,vs 6 e,vo 7 496,vo 8 560,vs 9 f,vs 10 g,vi 11 j],[(128,.var [.str a.fPublic,.str a.fSecret]),(496,.sl 80 h),(560,.sl 80 i)])
 |.c1 b d e f g l a h i=>(tdo Tryz.f147 131024,[vp 2 128,vs 4 b,vs 5 d,vs 6 e,vo 7 496,vo 8 560,vs 9 f,vs 10 g,vi 13 l],[(128,.var [.str a.fPublic,.str a.fSecret]),(496,.sl 80 h),(560,.sl 80 i)])
def CAt (b:NZ) (g:IAb) (h:Jw) (i:Ed) (j:Bh) (l:Zu) (m:Qi) (k:kS KAT (SPair×Bool)):U9:=fun d=>mk (cond ((TT d) != 32) (some (⟨IK,IK⟩,false)) ((b d).bind fun a=>cond (FZ a (Qb ⟨#[114]⟩)) ((b (a++(Qb ⟨#[114]⟩))).bind fun c=>cond (FZ a (Qb ⟨#[115]⟩)) ((b (a++(Qb ⟨#[115]⟩))).bind fun e=>(g c).bind fun f=>k (.c0 a c e IK IK 0 ⟨IK,IK⟩ f [])) none) none))
def YAA (a:NZ) (b:IAb) (c:Jw) (d:Ed) (e:Bh) (f:Zu) (g:Qi) (k:kS KAT (SPair×Bool)):kS KAT (SPair×Bool)
 |.c0 p q i r n h s t l=>mk (cond (Vw h) ((c i h).bind fun o=>(d o).bind fun j=>cond (Q5 l) ((e j).bind fun m=>cond (FZ n m) (k (.c0 p q i r (n++m) (NM h) s t (l++[j]))) none) none) (k (.c1 p q i r n 0 s t l)))
 |.c1 p j u h l i x n s=>mk (cond (Vw i) (cond (Tj (FN (i*2)) (FN ((FN (i*2))+2)) (n.length:Int)) ((f ((n.drop (Fb (i*2))).take ((Fb ((FN (i*2))+2)) - (Fb (i*2)))) s).bind fun r=>(c u (FN (2+i))).bind fun t=>(d t).bind fun v=>(g r v).bind fun w=>(e w).bind fun o=>cond (FZ h o) (k (.c1 p j u (h++o) l (NM i) x n s)) none) none) (cond (FZ h j) (cond (FZ l (h++j)) ((a (h++j)).bind fun m=>cond (Bf l (h++j) m) (cond (FZ p (Qb ⟨#[122]⟩)) ((a (p++(Qb ⟨#[122]⟩))).bind fun q=>cond (Bf (l++(h++j)) m q) (some (⟨h++j,((l++(h++j))++m)++q⟩,true)) none) none) none) none) none))
def Y6:kN KAT (SPair×Bool)
 |0,_=>none
 |m+1,s=>YAA Rh UAS X6 VAA MAE Jz XAA (Y6 m) s
def LAT:U9:=CAt Rh UAS X6 VAA MAE Jz XAA (Y6 gas)
def EA7:fK:=fy u1 LAT cv7 cv106 [Hr,TBN,WBN,BA7,FBO,DA7,CA7] Tryz.func147 LBO YAA CAt Y6
def DAt:KAH:=fun _=>none
def MBO:fK:=fs u1 DAt cv7 cv107 307
def EAt:Jw:=fun _ _=>none
def NBO:fK:=fs u2 EAt cv13 cv84 308
def FAt:Ed:=fun _=>none
def OBO:fK:=fs u1 FAt cv101 cv84 310
def GAt:Qi:=fun _ _=>none
def PBO:fK:=fs u2 GAt cv104 cv84 309
inductive MAT where
 |c0 (a:ByteArray) (b:Int) (d:(List (List Int))) (e:(List (List Int)))
def QBO:MAT→lQ
 |.c0 a b d e=>(tdo Tryz.f269 4048,[vs 1 a,vo 6 432,vo 8 560,vi 9 b],[(432,.sl 80 d),(560,.sl 80 e)])
def IAt (d:KAH) (e:Jw) (f:Ed) (g:Zu) (h:Ed) (i:Qi) (k:kS MAT (List Int×Bool)):LAH:=fun b c=>mk (cond ((TT b) != 1632) (some ([],false)) (cond ((TT c) != 768) (some ([],false)) ((d b).bind fun a=>cond (!a.2) (some ([],false)) (k (.c0 c 0 a.1 [])))))
def FA7 (a:KAH) (b:Jw) (c:Ed) (d:Zu) (e:Ed) (f:Qi) (k:kS MAT (List Int×Bool)):kS MAT (List Int×Bool)
 |.c0 h g m i=>mk (cond (Vw g) (cond (Tj (FN (g*320)) (FN ((NM g)*320)) (TT h)) ((b (h.extract (Fb (g*320)) (Fb ((NM g)*320))) 10).bind fun j=>(c j).bind fun l=>cond (Q5 i) (k (.c0 h (NM g) m (i++[l]))) none) none) (cond ((Ud Ea (640:Int)) && (decide (640≤(TT h)))) ((b (Fp h (640:Int)) 4).bind fun n=>(d m i).bind fun o=>(e o).bind fun p=>(f n p).bind fun q=>some (q,true)) none))
def JAt:kN MAT (List Int×Bool)
 |0,_=>none
 |m+1,s=>FA7 DAt EAt VAA Jz FAt GAt (JAt m) s
def KAt:LAH:=IAt DAt EAt VAA Jz FAt GAt (JAt gas)
def RBO:fK:=fy u2 KAt cv34 cv108 [MBO,NBO,BA7,DA7,OBO,PBO] Tryz.func269 QBO FA7 IAt JAt
def GA7:MAH:=fun _ _=>none
def SBO:fK:=fs u2 GA7 cv103 cv7 270
def LAt (c:LAH) (f:MAH):Og:=fun d e=>mk ((c d e).bind fun a=>cond (!a.2) (EZ (IK,false)) ((f a.1 1).bind fun b=>EZ (b,true)))
def MAt:Og:=LAt KAt GA7
def TBO:fK:=fy0 u2 MAt cv34 cv23 [RBO,SBO] Tryz.func210 LAt
def HA7:JAb:=fun _ _=>none
def UBO:fK:=fs u2 HA7 cv34 cv109 211
def NAt (h:Og) (i:JAb) (f:NZ):Og:=fun a b=>mk ((h a b).bind fun d=>cond (!d.2) (EZ (IK,false)) (Bc (RAn a) ((i (a.extract (GZ (768:Int)) (GZ (1568:Int))) d.1).bind fun c=>cond c.2.2 (cond (Jc c.1 b) (EZ (c.2.1,true)) (Bc (Sj (FN ((TT a) - 32)) (TT a)) (Bc (FZ (BAP a) b) ((f ((BAP a)++b)).bind fun e=>EZ (e,true))))) (Bc (Sj (FN ((TT a) - 32)) (TT a)) (Bc (FZ (BAP a) b) ((f ((BAP a)++b)).bind fun g=>EZ (g,true)))))))
def AAK:Og:=NAt MAt HA7 Rh
def VBO:fK:=fy0 u2 AAK cv34 cv23 [TBO,UBO,Hr] Tryz.func148 NAt
def OAt (e:Yn):NAH:=fun a c b=>mk ((e a).bind fun d=>cond (!d) (some (⟨0,0,false,false,false,false,IK,0⟩,false)) (cond (Qe a) (cond (!c) (some (⟨0,0,false,false,false,false,IK,0⟩,false)) (cond (Bd a) (cond (!b) (some (⟨0,0,false,false,false,false,IK,0⟩,false)) (some (G5 a c b,true))) (some (G5 a c b,true)))) (cond (Bd a) (cond (!b) (some (⟨0,0,false,false,false,false,IK,0⟩,false)) (some (G5 a c b,true))) (some (G5 a c b,true)))))
def FAf:NAH:=OAt F6
def WBO:fK:=fy0 u3 FAf cv110 cv27 [WAP] Tryz.func149 OAt
def PAt (b:NZ):NZ:=fun a=>mk (Nc (FZ a Gp) (Pg (b (a++Gp))))
def GAf:NZ:=PAt TAR
def XBO:fK:=fy0 u1 GAf cv7 cv7 [QA6] Tryz.func212 PAt
def QAt (d:Yn) (e:U9) (f:NZ):OAH:=fun a=>mk ((d a).bind fun b=>cond (!b) Gv (cond (a.fKind == 1) ((e (Lc a)).bind fun c=>some c.1.fPublic) (cond (a.fKind == 2) (Pg (f (Lc a))) Gv)))
def HAf:OAH:=QAt F6 LAT GAf
def YBO:fK:=fy0 u1 HAf cv21 cv7 [WAP,EA7,XBO] Tryz.func150 QAt
def RAt (e:BAH) (d:XAC) (t:Yu) (u:Uu) (v:Ky) (w:Og) (x:U9) (y:Og) (c:G9) (z:NAH) (A:PAO) (B:OAH):Yu:=fun j a b=>mk (cond (a.fOp == 6) ((e b 1).bind fun h=>cond h (VZ (d [] (Lc b))) (VZ (c 8 DAA))) (cond (a.fOp == 5) ((e b 3).bind fun i=>cond i (VZ (t j a b)) (VZ (c 8 DAA))) (cond (a.fOp == 10) ((e b 2).bind fun l=>cond l ((u b).bind fun m=>(v j).bind fun n=>(w n m.1).bind fun o=>VZ (d [] o.1)) (VZ (c 8 DAA))) (cond (a.fOp == 12) ((e b 4).bind fun p=>cond p ((x (Lc b)).bind fun q=>(y q.1.fSecret a.fText).bind fun f=>cond (!f.2) (VZ (c 6 DAP)) (VZ (d [] f.1))) (VZ (c 8 DAA))) (cond (a.fOp == 8) ((z b a.fHidden a.fFixed).bind fun g=>cond g.2 ((A g.1).bind fun r=>VZ (d r IK)) (VZ (c 8 DAA))) (cond (a.fOp == 7) ((B b).bind fun s=>VZ (d [] s)) (cond (a.fOp == 9) (VZ (d [⟨4,IK,b.fId,⟨0,0,false,false,false,false,IK,0⟩⟩] IK)) (VZ (c 8 DAA)))))))))
def IAf:Yu:=RAt EAe YAI VAe LAA AAE BAE LAT AAK CAE FAf VAd HAf
def ZBO:fK:=fy0 u3 IAf cv90 cv64 [BBM,AAR,ABN,UAc,BAq,DAq,EA7,VBO,WAI,WBO,OAq,YBO] Tryz.func83 RAt
def SAt (c:G9) (l:LZ) (f:XAC) (p:Bo) (q:Fh) (r:NZ) (n:YAG) (o:H9) (s:Fh) (t:Zn) (u:Yu):Fh:=fun b a=>mk (cond (a.fOp == 1) (cond ((Qg b:Int) == 3) (VZ (c 1 GAD)) (cond (b.fOpened == 1000) (VZ (c 1 GAD)) ((l (NM b.fOpened)).bind fun j=>VZ (f [] j)))) ((p b (Fj a)).bind fun d=>cond (Qh d) (VZ (c 2 ⟨#[115,101,115,115,105,111,110]⟩)) (cond (a.fOp == 13) (VZ (f [] IK)) (cond (a.fOp == 2) (VZ (q b a)) (cond (Ba d (Qg b)) (cond (!(Yk (Vd b) d ⟨0,false⟩).fIn) (VZ (c 5 ⟨#[111,117,116]⟩)) (cond (a.fOp == 3) (cond ((TT a.fText) > 20) (VZ (c 6 DAP)) ((r a.fText).bind fun m=>VZ (f [⟨1,m,0,⟨0,0,false,false,false,false,IK,0⟩⟩] IK))) (cond (a.fOp == 4) (cond (a.fKind == 2) ((l (Zk b)).bind fun e=>cond (FZ e JAD) (cond (FZ (e++JAD) a.fText) ((n a.fKind ((e++JAD)++a.fText)).bind fun g=>VZ (o b a g.1 g.2)) none) none) ((n a.fKind a.fText).bind fun h=>VZ (o b a h.1 h.2))) (cond (a.fOp == 11) (VZ (s b a)) ((t b.fBook a.fThing).bind fun i=>cond (!i.2) (VZ (c 7 ⟨#[110,111,110,101]⟩)) (VZ (u b a i.1))))))) none)))))
def Ov:Fh:=SAt CAE XAI YAI SAd TAd Rh UAd DAR DAe Yy IAf
def IA7:fK:=fy0 u2 Ov cv68 cv64 [WAI,DA6,AAR,SBL,TBL,Hr,UBL,GA6,ABM,ZAP,ZBO] Tryz.func27 SAt
inductive NAT where
 |c0 (a:(List Int)) (b:Int) (d:SDisk) (e f:(List SFile))
def ABP:NAT→lQ
 |.c0 a b d e f=>(tdo Tryz.f314 976,[vr 1 3 a,vp 2 128,vp 4 256,vp 6 384,vi 7 b],[(128,.var [.rsl 116 d.fFiles]),(256,.var [.own 1016384]),(384,.var [.own 1024576]),(1016384,.sl 116 e),(1024576,.sl 116 f)])
def TAt (c:Pq) (k:kS NAT (SDisk×Bool)):TAm:=fun b d=>mk ((c b).bind fun a=>cond (!a) (some (QZ,false)) (k (.c0 d 0 b [] [])))
def UAt (a:Pq) (k:kS NAT (SDisk×Bool)):kS NAT (SDisk×Bool)
 |.c0 d b c f e=>mk (cond (Gh b (Af c)) (cond (Ba b (Af c)) (cond (MZ b (IZ d)) (cond (Qa b d) (cond ((JZ d b) > (Wi c b)) (cond (MZ (Wi c b) (Si c b)) (cond (Sj (Si c b) (Wi c b)) (cond (Qw e) (k (.c0 d (NM b) c f (e++[GAc c b]))) none) none) (cond ((Ej (Wi c b)) && (decide ((Wi c b)≤(Wi c b)))) (cond (Qw e) (k (.c0 d (NM b) c f (e++[(⟨Vj c b,Rq (Nh c b) (Wi c b),Wi c b⟩:SFile)]))) none) none)) (cond (MZ (JZ d b) (Si c b)) (cond (Sj (Si c b) (Wi c b)) (cond (Qw e) (k (.c0 d (NM b) c f (e++[GAc c b]))) none) none) (cond (Sj (JZ d b) (Wi c b)) (cond (Qw e) (k (.c0 d (NM b) c f (e++[(⟨Vj c b,Rq (Nh c b) (JZ d b),JZ d b⟩:SFile)]))) none) none))) none) (cond (0<(Si c b)) (cond (Sj (Si c b) (Wi c b)) (cond (Qw e) (k (.c0 d (NM b) c f (e++[GAc c b]))) none) none) (cond (Qw e) (k (.c0 d (NM b) c f (e++[(⟨Vj c b,Rq (Nh c b) Ea,0⟩:SFile)]))) none))) none) (some (⟨e⟩,true)))
def OAT:kN NAT (SDisk×Bool)
 |0,_=>none
 |m+1,s=>UAt H6 (OAT m) s
def QAT:TAm:=TAt H6 (OAT gas)
def BBP:fK:=fy u2 QAT cv111 cv45 [GAd] Tryz.func314 ABP UAt TAt OAT
def VAt (f:Ja) (g:MAO) (i:TAm):KAb:=fun h b a j=>mk ((f a 0 (b.length:Int)).bind fun e=>cond (!e) (some (QZ,false)) (cond (Sj a (b.length:Int)) ((g h ((b.take (GZ a)).drop 0)).bind fun c=>cond (MZ c.2 a) (some (QZ,false)) ((i c.1 j).bind fun d=>some (d.1,d.2))) none))
def TAT:KAb:=VAt Td TAI QAT
def CBP:fK:=fy0 u4 TAT cv112 cv45 [Ji,QAp,BBP] Tryz.func274 VAt
def WAt (c:Z4):V9:=fun b d=>mk ((c b d).bind fun a=>cond (Qh a) (EZ (IK,false)) (Bc (Ba a (Af b)) (EZ (Nh b a,true))))
def BAK:V9:=WAt PAI
def JA7:fK:=fy0 u2 BAK cv41 cv23 [LAp] Tryz.func133 WAt
inductive UAT where
 |c0 (a:ByteArray) (b:Int) (d:(List ByteArray))
def DBP:UAT→lQ
 |.c0 a b d=>(tdo Tryz.f186 992,[vs 0 a,vo 4 304,vi 5 b],[(304,.sl 9 d)])
def XAt (b:Us) (c:Iw) (k:kS UAT (List ByteArray×Int)):W9:=fun a=>mk (cond ((TT a) > 20000) (some ([],0)) (k (.c0 a 0 [])))
def YAt (a:Us) (b:Iw) (k:kS UAT (List ByteArray×Int)):kS UAT (List ByteArray×Int)
 |.c0 e d f=>mk (cond (MZ d (TT e)) ((a e d).bind fun c=>cond (!c.2.2) (some (f,d)) (cond (c.1 > (FN ((Ze (TT e) c.2.1) - 4))) (some (f,d)) (cond (Tj (FN (c.2.1+4)) (FN (Rw c)) (TT e)) ((b (e.extract (Fb (c.2.1+4)) (Fb (Rw c)))).bind fun g=>cond (!g.2) (some (f,d)) (cond (Tj d (FN (Rw c)) (TT e)) (cond (!(Jc g.1 (Ii e d (Rw c)))) (some (f,d)) (cond (Xl f) (k (.c0 e (FN (Rw c)) (f++[e.extract (Fb (c.2.1+4)) (Fb (Rw c))]))) none)) none)) none))) (some (f,d)))
def VAT:kN UAT (List ByteArray×Int)
 |0,_=>none
 |m+1,s=>YAt Kv OAA (VAT m) s
def WAT:W9:=XAt Kv OAA (VAT gas)
def EBP:fK:=fy u1 WAT cv7 cv113 [TAq,GAp] Tryz.func186 DBP YAt XAt VAT
def NAE (l:I9) (m:QAO) (i:I9) (j:J9) (c:Ew):X9:=fun b=>mk ((l ⟨b,0,false⟩).bind fun a=>cond (a.1 == 1) ((m a.2 32).bind fun d=>BAA c ⟨a.1,d.1,0,⟨0,0,false,false,false,false,IK,0⟩⟩ d.2.fBad (some (⟨0,IK,0,⟨0,0,false,false,false,false,IK,0⟩⟩,false)) b (some (⟨a.1,d.1,0,⟨0,0,false,false,false,false,IK,0⟩⟩,true))) (cond (a.1 == 2) (cond (a.1 == 2) ((i a.2).bind fun e=>BAA c ⟨a.1,IK,e.1,⟨0,0,false,false,false,false,IK,0⟩⟩ e.2.fBad (some (⟨0,IK,0,⟨0,0,false,false,false,false,IK,0⟩⟩,false)) b (some (⟨a.1,IK,e.1,⟨0,0,false,false,false,false,IK,0⟩⟩,true))) (cond (a.1 == 3) (cond (CAP b) ((j (Fp b Ti)).bind fun g=>BAA c ⟨a.1,IK,0,g.1⟩ a.2.fBad (some (⟨0,IK,0,⟨0,0,false,false,false,false,IK,0⟩⟩,false)) b (some (⟨a.1,IK,0,g.1⟩,true))) none) (BAA c ⟨a.1,IK,0,⟨0,0,false,false,false,false,IK,0⟩⟩ a.2.fBad (some (⟨0,IK,0,⟨0,0,false,false,false,false,IK,0⟩⟩,false)) b (some (⟨a.1,IK,0,⟨0,0,false,false,false,false,IK,0⟩⟩,true))))) (cond (a.1 == 4) ((i a.2).bind fun f=>BAA c ⟨a.1,IK,f.1,⟨0,0,false,false,false,false,IK,0⟩⟩ f.2.fBad (some (⟨0,IK,0,⟨0,0,false,false,false,false,IK,0⟩⟩,false)) b (some (⟨a.1,IK,f.1,⟨0,0,false,false,false,false,IK,0⟩⟩,true))) (cond (a.1 == 3) (cond (CAP b) ((j (Fp b Ti)).bind fun h=>BAA c ⟨a.1,IK,0,h.1⟩ a.2.fBad (some (⟨0,IK,0,⟨0,0,false,false,false,false,IK,0⟩⟩,false)) b (some (⟨a.1,IK,0,h.1⟩,true))) none) (BAA c ⟨a.1,IK,0,⟨0,0,false,false,false,false,IK,0⟩⟩ a.2.fBad (some (⟨0,IK,0,⟨0,0,false,false,false,false,IK,0⟩⟩,false)) b (some (⟨a.1,IK,0,⟨0,0,false,false,false,false,IK,0⟩⟩,true)))))))
def Ox:X9:=NAE Dx Fz QAA L6 TAD
def FBP:fK:=fy0 u1 Ox cv7 cv114 [IA6,WAq,VAq,JA6,OAo] Tryz.func188 NAE
inductive XAT where
 |c0 (a:ByteArray) (b d:Int) (e:(List SRec)) (f:(List ByteArray))
def GBP:XAT→lQ
 |.c0 a b d e f=>(tdo Tryz.f134 2000,[vs 0 a,vo 6 432,vo 7 496,vi 9 b,vi 10 d],[(432,.sl 47 e),(496,.sl 9 f)])
def ZAt (b:W9) (e:Rl) (f:X9) (g:Iw) (k:kS XAT (List SRec×Int)):Y9:=fun d c=>(b c).bind fun a=>k (.c0 d 0 0 [] a.1)
def JAf (a:W9) (b:Rl) (c:X9) (d:Iw) (k:kS XAT (List SRec×Int)):kS XAT (List SRec×Int)
 |.c0 l h e g f=>mk (cond (MZ e (Mc f)) (cond (Po e f) ((b l (NM e) (Me f e IK)).bind fun i=>(c i.1).bind fun j=>cond (!i.2) (some (g,h)) (cond (!j.2) (some (g,h)) (cond (Nb ((g.length+1)*80)) (cond (Po e f) ((d (Me f e IK)).bind fun m=>k (.c0 l (Va h (TT m.1)) (NM e) (g++[j.1]) f)) none) none))) none) (some (g,h)))
def CAK:kN XAT (List SRec×Int)
 |0,_=>none
 |m+1,s=>JAf WAT AAJ Ox OAA (CAK m) s
def DAK:Y9:=ZAt WAT AAJ Ox OAA (CAK gas)
def KA7:fK:=fy u2 DAK cv34 cv115 [EBP,HA6,FBP,GAp] Tryz.func134 GBP JAf ZAt CAK
def AAu:PAH:=fun a b=>mk (cond (Nb ((0+a.fDone.length)*80)) (cond (Nb ((a.fDone.length+1)*80)) (some ⟨a.fBox,a.fCodes,Ph a,a.fGives,a.fDone++[b]⟩) none) none)
def ZAA:PAH:=AAu
def LA7:fK:=fy0 u2 ZAA cv116 cv62 [] Tryz.func217 AAu [0]
def BAu (c:Qs):Qy:=fun a=>mk (cond (Nb ((0+(Af a.fDisk))*40)) (c.bind fun b=>some ⟨a.fKey,false,⟨a.fDisk.fFiles⟩,b,[],[],0⟩) none)
def EAK:Qy:=BAu D6
theorem HBP:Tells ctx PP 275 cv56 cv117 (u1 EAK):=ty0 u1 EAK cv56 cv117 [UAP] Tryz.func275 BAu
def CAu (c:Qs):LAb:=fun a=>mk (cond (Nb ((0+a.2.2.1.length)*40)) (c.bind fun b=>some ⟨a.1,false,⟨a.2.2.1⟩,b,[],[],0⟩) none)
def FAK:LAb:=CAu D6
theorem IBP:Tells ctx PP 275 cv154 cv117 (u1 FAK):=ty0 u1 FAK cv154 cv117 [UAP] Tryz.func275 CAu
inductive YAT where
 |c0 (a:ByteArray) (b:Bool) (d:ByteArray) (e f:Int) (g:ByteArray) (h i:Int) (j:ByteArray) (l:Bool) (n:ByteArray) (o p:Int) (q:ByteArray) (t u:Int) (v:(List SFile)) (w:(List SThing)) (x:(List SSession)) (y:(List SLive)) (aa:(List Int)) (ab:(List ByteArray)) (ac:(List SGiven)) (ad:(List SRec)) (ae:(List SFile))
 |c1 (a:ByteArray) (b:Bool) (d:ByteArray) (e f:Int) (g:ByteArray) (h i:Int) (j:ByteArray) (l:Bool) (n:ByteArray) (o p:Int) (q:ByteArray) (t u:Int) (v:(List SFile)) (w:(List SThing)) (x:(List SSession)) (y:(List SLive)) (aa:(List Int)) (ab:(List ByteArray)) (ac:(List SGiven)) (ad:(List SRec)) (ae:(List SFile))
def JBP:YAT→lQ
 |.c0 a b d e f g h i j l n o p q t u v w x y aa ab ac ad ae=>(tdo Tryz.f215 510,[vp 0 0,vp 6 384,vp 9 576],[(0,.var [.str a,.bool b,.own 1000002,.str d,li e,.own 1000005,li f,.str g,li h,.own 1000009,.own 1000010,li i,.own 1000012,.own 1000013,.own 1000014,.own 1000015]),(384,.var [.str j,.bool l,.any,.str n,li o,.any,li p,.str q,li t,.any,.any,li u]),(576,.var [.own 1036864]),(1000002,.sl 116 v),(1000005,.sl 45 w),(1000009,.sl 58 x),(1000010,.sl 126 y),(1000012,.sl 3 aa),(1000013,.sl 9 ab),(1000014,.sl 230 ac),(1000015,.sl 47 ad),(1036864,.sl 116 ae)])
 |.c1 a b d e f g h i j l n o p q t u v w x y aa ab ac ad ae=>(tdo Tryz.f215 510,[vp 0 0,vp 6 384,vp 9 576],[(0,.var [.str a,.bool b,.own 1000002,.str d,li e,.own 1000005,li f,.str g,li h,.own 1000009,.own 1000010,li i,.own 1000012,.own 1000013,.own 1000014,.own 1000015]),(384,.var [.str j,.bool l,.own 1000002,.str n,li o,.own 1000005,li p,.str q,li t,.own 1000009,.own 1000010,li u]),(576,.var [.own 1036864]),(1000002,.sl 116 v),(1000005,.sl 45 w),(1000009,.sl 58 x),(1000010,.sl 126 y),(1000012,.sl 3 aa),(1000013,.sl 9 ab),(1000014,.sl 230 ac),(1000015,.sl 47 ad),(1036864,.sl 116 ae)])
def DAu (h:KAO) (i:KAb) (l:V9) (m:Y9) (n:PAH) (o:Qy×LAb) (q:WAC) (k:kS YAT SLife):MAb:=fun a e j=>mk ((h (Qo a) (Sm a) e).bind fun d=>(i a.fBox.fDisk d.1 1 j).bind fun c=>(l c.1 J5).bind fun f=>(m (Qo a) f.1).bind fun g=>cond ((g.1.length:Int) > (Sm a)) ((n a e).bind fun b=>k (.c0 (Qo b) b.fBox.fUp (Xq b) (Yq b) (Wq b) (Ub (Jf b)) (Sm b) (Vq b) (Qo a) a.fBox.fUp (Xq a) (Yq a) (Wq a) (Ub (Jf a)) (Sm a) (Vq a) (Fv b) (PZ (Jf b)) (Vd b.fBox) (Jv b) b.fCodes (Ph b) b.fGives b.fDone c.1.fFiles)) (k (.c1 (Qo a) a.fBox.fUp (Xq a) (Yq a) (Wq a) (Ub (Jf a)) (Sm a) (Vq a) (Qo a) a.fBox.fUp (Xq a) (Yq a) (Wq a) (Ub (Jf a)) (Sm a) (Vq a) (Fv a) (PZ (Jf a)) (Vd a.fBox) (Jv a) a.fCodes (Ph a) a.fGives a.fDone c.1.fFiles)))
def KAf (a:KAO) (b:KAb) (c:V9) (d:Y9) (e:PAH) (f:Qy×LAb) (h:WAC) (k:kS YAT SLife):kS YAT SLife
 |.c0 _ _ _ _ _ _ _ _ j l n o p q r s _ _ _ _ t u v w m=>mk ((f.2 (j,l,m,n,o,(),p,q,r,(),(),s)).bind fun i=>Dv (h ⟨i,t,u,v,w⟩ 10 IK))
 |.c1 _ _ _ _ _ _ _ _ j l n o q r s v _ p t u w x y z m=>mk ((f.1 ⟨j,l,⟨m⟩,⟨n,o,p,q,r,s⟩,t,u,v⟩).bind fun i=>Dv (h ⟨i,w,x,y,z⟩ 10 IK))
def ZAT:kN YAT SLife
 |0,_=>none
 |m+1,s=>KAf LAI TAT BAK DAK ZAA (EAK,FAK) J6 (ZAT m) s
def GAK:MAb:=DAu LAI TAT BAK DAK ZAA (EAK,FAK) J6 (ZAT gas)
def KBP:fK:=fy u3 GAK cv118 cv62 [WA5,CBP,JA7,KA7,LA7,fj u1 u1 HBP IBP,HAq] Tryz.func215 JBP KAf DAu ZAT [0]
def EAu (d:Zn) (f:GAb):Bo:=fun b e=>mk ((d b.fBook e).bind fun a=>cond (!a.2) Uw (cond (a.1.fKind != 2) Uw ((f b a.1).bind fun c=>some c)))
def AAB:Bo:=EAu Yy IAR
def LBP:fK:=fy0 u2 AAB cv67 cv20 [ZAP,LA6] Tryz.func216 EAu
def FAu (c:Vu):Qy:=fun a=>mk (cond (Nb ((0+(Af a.fDisk))*40)) ((c a.fBook).bind fun b=>cond (Nb ((0+(Qg a))*16)) (cond (Nb ((0+(Ko a))*16)) (some ⟨a.fKey,a.fUp,⟨a.fDisk.fFiles⟩,b,Vd a,a.fLives,a.fOpened⟩) none) none) none)
def BAB:Qy:=FAu NAA
def MA7:fK:=fy0 u1 BAB cv56 cv117 [RAo] Tryz.func97 FAu
inductive OAE where
 |c0 (a:(List SLive)) (b e f:Int) (d:(List SLive))
 |c1 (a:(List SLive)) (b g:Int) (d:(List SLive))
def MBP:OAE→lQ
 |.c0 a b e f d=>(tdo Tryz.f276 464,[vr 0 126 a,vi 1 b,vi 2 e,vo 7 496,vi 8 f],[(496,.sl 126 d)])
 |.c1 a b g d=>(tdo Tryz.f276 2000,[vr 0 126 a,vi 1 b,vo 7 496,vi 9 g],[(496,.sl 126 d)])
def GAu (k:kS OAE (List SLive)):NAb:=fun a b c=>k (.c0 a b c 0 [])
def HAK (k:kS OAE (List SLive)):kS OAE (List SLive)
 |.c0 a c e b d=>mk (cond (Gh b a.length) (cond (Ba b a.length) (cond (MZ (Jp a b).fId c) (cond (Ba b a.length) (cond (Nb ((d.length+1)*16)) (k (.c0 a c e (NM b) (d++[Jp a b]))) none) none) (k (.c0 a c e (NM b) d))) none) (cond (Gt e) (cond (Nb ((d.length+1)*16)) (k (.c1 a c 0 (d++[(⟨c,e⟩:SLive)]))) none) (k (.c1 a c 0 d))))
 |.c1 b d a c=>mk (cond (Gh a b.length) (cond (Ba a b.length) (cond ((Jp b a).fId > d) (cond (Ba a b.length) (cond (Nb ((c.length+1)*16)) (k (.c1 b d (NM a) (c++[Jp b a]))) none) none) (k (.c1 b d (NM a) c))) none) (some c))
def Kz:kN OAE (List SLive)
 |0,_=>none
 |m+1,s=>HAK (Kz m) s
def AAU:NAb:=GAu (Kz gas)
def NBP:fK:=fy u3 AAU cv119 cv120 [] Tryz.func276 MBP HAK GAu Kz
inductive PAE where
 |c0 (af:Int) (ag:SBox) (a:SCall) (b:ByteArray) (d:Bool) (e:ByteArray) (f g:Int) (h:ByteArray) (i j:Int) (l:ByteArray) (n:Bool) (o:ByteArray) (p q:Int) (t:ByteArray) (u v:Int) (ah:(List SSession)) (w:(List SFile)) (x:(List SThing)) (y:(List SSession)) (aa:(List SLive)) (ab:(List SFile)) (ac:(List SThing)) (ad:(List SSession)) (ae:(List SLive))
 |c1 (ai:Int) (a:SCall) (b:ByteArray) (d:Bool) (e:ByteArray) (f g:Int) (h:ByteArray) (i j:Int) (l:ByteArray) (n:Bool) (o:ByteArray) (p q:Int) (t:ByteArray) (u v:Int) (w:(List SFile)) (x:(List SThing)) (y:(List SSession)) (aa:(List SLive)) (ab:(List SFile)) (ac:(List SThing)) (ad:(List SSession)) (ae:(List SLive))
def OBP:PAE→lQ
 |.c0 ag b a d e f g h i j l n o p q t u v w ah x y aa ab ac ad ae af=>(tdo Tryz.f218 251728,[vp 4 256,vp 5 320,vp 8 512,vp 9 576,vo 10 688,vi 11 ag],[(256,.var [.str b.fKey,.bool b.fUp,.rsl 116 b.fDisk.fFiles,.str b.fBook.fWord,li b.fBook.fTries,.rsl 45 b.fBook.fThings,li b.fBook.fLast,.str b.fBook.fChain,li b.fBook.fCount,.rsl 58 b.fSessions,.rsl 126 b.fLives,li b.fOpened]),(320,.var [li a.fOp,li a.fSession,li a.fThing,li a.fKind,.str a.fText,.bool a.fHidden,.bool a.fFixed]),(512,.var [.str d,.bool e,.own 1032770,.str f,li g,.own 1032773,li h,.str i,li j,.own 1032777,.own 1032778,li l]),(576,.var [.str n,.bool o,.own 1036866,.str p,li q,.own 1036869,li t,.str u,li v,.own 1036873,.own 1036874,li w]),(688,.sl 58 ah),(1032770,.sl 116 x),(1032773,.sl 45 y),(1032777,.sl 58 aa),(1032778,.sl 126 ab),(1036866,.sl 116 ac),(1036869,.sl 45 ad),(1036873,.sl 58 ae),(1036874,.sl 126 af)])
 |.c1 ai a d e f g h i j l n o p q t u v w x y aa ab ac ad ae af=>(tdo Tryz.f218 251856,[vp 5 320,vp 8 512,vp 9 576,vi 12 ai],[(320,.var [li a.fOp,li a.fSession,li a.fThing,li a.fKind,.str a.fText,.bool a.fHidden,.bool a.fFixed]),(512,.var [.str d,.bool e,.own 1032770,.str f,li g,.own 1032773,li h,.str i,li j,.own 1032777,.own 1032778,li l]),(576,.var [.str n,.bool o,.own 1036866,.str p,li q,.own 1036869,li t,.str u,li v,.own 1036873,.own 1036874,li w]),(1032770,.sl 116 x),(1032773,.sl 45 y),(1032777,.sl 58 aa),(1032778,.sl 126 ab),(1036866,.sl 116 ac),(1036869,.sl 45 ad),(1036873,.sl 58 ae),(1036874,.sl 126 af)])
def HAu (i:Qy) (l:Zn) (g:NAb) (k:kS PAE SBox):OAb:=fun c b j e=>mk ((i c).bind fun a=>cond (j != 0) (some a) (cond (b.fOp == 1) (cond (Nb (((Qg a)+1)*16)) (some ⟨a.fKey,a.fUp,a.fDisk,a.fBook,(Vd a)++[(⟨NM c.fOpened,false⟩:SSession)],a.fLives,NM c.fOpened⟩) none) (cond (b.fOp == 13) (k (.c0 0 c b IK false IK 0 0 IK 0 0 a.fKey a.fUp a.fBook.fWord (Oe a.fBook) a.fBook.fLast (Ub a.fBook) a.fBook.fCount a.fOpened [] [] [] [] [] a.fDisk.fFiles (PZ a.fBook) (Vd a) a.fLives)) (cond (b.fOp == 2) (k (.c1 0 b IK false IK 0 0 IK 0 0 a.fKey a.fUp a.fBook.fWord (Oe a.fBook) a.fBook.fLast (Ub a.fBook) a.fBook.fCount a.fOpened [] [] [] [] a.fDisk.fFiles (PZ a.fBook) (Vd a) a.fLives)) (cond (b.fOp == 5) ((l c.fBook b.fThing).bind fun d=>cond d.2 (cond (d.1.fKind == 2) (cond (Gt e) (cond (MZ e d.1.fNext) ((g c.fLives d.1.fId (NM e)).bind fun f=>some ⟨a.fKey,a.fUp,a.fDisk,a.fBook,Vd a,f,a.fOpened⟩) (some a)) (some a)) (some a)) (some a)) (cond (b.fOp == 9) ((g c.fLives b.fThing (-Ti)).bind fun h=>some ⟨a.fKey,a.fUp,a.fDisk,a.fBook,Vd a,h,a.fOpened⟩) (some a)))))))
def IAK (a:Qy) (b:Zn) (c:NAb) (k:kS PAE SBox):kS PAE SBox
 |.c0 d e g t u v w x y z A h i j l m n o p f B C D E q r F s=>mk (cond (Gh d (Qg e)) (cond (Ba d (Qg e)) (cond ((Yk (Vd e) d ⟨0,false⟩).fId != (Fj g)) (cond (Ba d (Qg e)) (cond (Nb ((f.length+1)*16)) (k (.c0 (NM d) e g t u v w x y z A h i j l m n o p (f++[Yk (Vd e) d ⟨0,false⟩]) B C D E q r F s)) none) none) (k (.c0 (NM d) e g t u v w x y z A h i j l m n o p f B C D E q r F s))) none) (some ⟨h,i,⟨q⟩,⟨j,l,r,m,n,o⟩,f,s,p⟩))
 |.c1 d f s t u v w x y z g h i j l m n o A B C D p q e r=>mk (cond (Gh d e.length) (cond (Ba d e.length) (cond (Yk e d ⟨0,false⟩).fIn (cond (Ba d e.length) (k (.c1 (NM d) f s t u v w x y z g h i j l m n o A B C D p q (e.set (GZ d) (⟨(Yk e d ⟨0,false⟩).fId,true⟩:SSession)) r)) none) (cond (Ba d e.length) (cond (Ba d e.length) (k (.c1 (NM d) f s t u v w x y z g h i j l m n o A B C D p q (e.set (GZ d) (⟨(Yk e d ⟨0,false⟩).fId,(Yk e d ⟨0,false⟩).fId == (Fj f)⟩:SSession)) r)) none) none)) none) (some ⟨g,h,⟨p⟩,⟨i,j,q,l,m,n⟩,e,r,o⟩))
def D7:kN PAE SBox
 |0,_=>none
 |m+1,s=>IAK BAB Yy AAU (D7 m) s
def Nz:OAb:=HAu BAB Yy AAU (D7 gas)
def PBP:fK:=fy u4 Nz cv121 cv117 [MA7,ZAP,NBP] Tryz.func218 OBP IAK HAu D7
inductive BAU where
 |c0 (a b:Int) (d:ByteArray) (e f:Int) (g:ByteArray) (h:Bool) (i:ByteArray) (j l:Int) (n:ByteArray) (o p:Int) (q:SEvent) (t:(List SRec)) (u:(List SFile)) (v:(List SThing)) (w:(List SSession)) (x:(List SLive)) (y:(List Int)) (aa:(List ByteArray)) (ab:(List SGiven)) (ac:(List SRec))
def QBP:BAU→lQ
 |.c0 b d e f g h i j l n o p q a t u v w x y aa ab ac=>(tdo Tryz.f156 4048,[vp 0 0,vi 1 b,vp 5 320,vo 6 432,vi 7 d,vs 8 e,vi 9 f,vi 10 g],[(0,.var [.str h,.bool i,.own 1000002,.str j,li l,.own 1000005,li n,.str o,li p,.own 1000009,.own 1000010,li q,.own 1000012,.own 1000013,.own 1000014,.own 1000015]),(320,.var [li a.fCall.fOp,li a.fCall.fSession,li a.fCall.fThing,li a.fCall.fKind,.str a.fCall.fText,.bool a.fCall.fHidden,.bool a.fCall.fFixed,.bool a.fCut,.rsl 3 a.fLeft,.bool a.fRise]),(432,.sl 47 t),(1000002,.sl 116 u),(1000005,.sl 45 v),(1000009,.sl 58 w),(1000010,.sl 126 x),(1000012,.sl 3 y),(1000013,.sl 9 aa),(1000014,.sl 230 ab),(1000015,.sl 47 ac)])
def JAK (d:WAC) (i:Fh) (j:MAb) (f:Bo) (l:NAO) (m:Hw) (n:PAH) (o:OAb) (k:kS BAU SLife):D5:=fun a g c=>mk (cond (!a.fBox.fUp) (Dv (d a 9 GAA)) (cond ((Sm a)≥10000) (Dv (d a 9 GAA)) ((i a.fBox c.fCall).bind fun b=>cond c.fCut (cond (Yl (b.1.length:Int)) (cond (F5 Ea (b.1.length:Int)) (Dv (j a (b.1.getD (GZ Ea) (⟨0,IK,0,⟨0,0,false,false,false,false,IK,0⟩⟩:SRec)) c.fLeft)) none) ((f a.fBox c.fCall.fThing).bind fun e=>k (.c0 g b.2.1 b.2.2 e 0 (Qo a) a.fBox.fUp (Xq a) (Yq a) (Wq a) (Ub (Jf a)) (Sm a) (Vq a) c b.1 (Fv a) (PZ (Jf a)) (Vd a.fBox) (Jv a) a.fCodes (Ph a) a.fGives a.fDone))) ((f a.fBox c.fCall.fThing).bind fun h=>k (.c0 g b.2.1 b.2.2 h 0 (Qo a) a.fBox.fUp (Xq a) (Yq a) (Wq a) (Ub (Jf a)) (Sm a) (Vq a) c b.1 (Fv a) (PZ (Jf a)) (Vd a.fBox) (Jv a) a.fCodes (Ph a) a.fGives a.fDone)))))
def LAf (a:WAC) (b:Fh) (c:MAb) (d:Bo) (e:NAO) (f:Hw) (g:PAH) (h:OAb) (k:kS BAU SLife):kS BAU SLife
 |.c0 J n r w j u F A B D E v I s l y C G H o p m q=>mk (cond (Gh j l.length) (cond (Ba j l.length) ((e u ⟨y⟩ v (Hf l j IK ⟨0,0,false,false,false,false,IK,0⟩)).bind fun x=>cond (Ba j l.length) ((f ⟨A,B,C,D,E,v⟩ (Hf l j IK ⟨0,0,false,false,false,false,IK,0⟩)).bind fun z=>cond (Ba j l.length) ((g ⟨⟨u,F,x,z.1,G,H,I⟩,o,p,m,q⟩ (Hf l j IK ⟨0,0,false,false,false,false,IK,0⟩)).bind fun i=>k (.c0 J n r w (NM j) (Qo i) i.fBox.fUp (Xq i) (Yq i) (Wq i) (Ub (Jf i)) (Sm i) (Vq i) s l (Fv i) (PZ (Jf i)) (Vd i.fBox) (Jv i) i.fCodes (Ph i) i.fGives i.fDone)) none) none) none) ((h ⟨u,F,⟨y⟩,⟨A,B,C,D,E,v⟩,G,H,I⟩ s.fCall n w).bind fun t=>cond (s.fCall.fOp == 5) (cond (Ib n) (cond (Nb ((0+m.length)*24)) (cond (Nb ((m.length+1)*24)) (Dv (a ⟨t,o,p,m++[(⟨s.fCall.fThing,w,J⟩:SGiven)],q⟩ n r)) none) none) (Dv (a ⟨t,o,p,m,q⟩ n r))) (Dv (a ⟨t,o,p,m,q⟩ n r))))
def KAK:kN BAU SLife
 |0,_=>none
 |m+1,s=>LAf J6 Ov GAK AAB XAD Az ZAA Nz (KAK m) s
def Oz:D5:=JAK J6 Ov GAK AAB XAD Az ZAA Nz (KAK gas)
def RBP:fK:=fy u3 Oz cv122 cv62 [HAq,IA7,KBP,LBP,YA5,VAo,LA7,PBP] Tryz.func156 QBP LAf JAK KAK [0]
inductive CAU where
 |c0 (a:Int) (b d:SBook)
def SBP:CAU→lQ
 |.c0 d a b=>(tdo Tryz.f69 464,[vp 2 128,vp 3 192,vi 5 d],[(128,.var [.str a.fWord,li a.fTries,.rsl 45 a.fThings,li a.fLast,.str a.fChain,li a.fCount]),(192,.var [.str b.fWord,li b.fTries,.rsl 45 b.fThings,li b.fLast,.str b.fChain,li b.fCount])])
def IAu (k:kS CAU Bool):Z9:=fun a b=>mk (cond (!(Jc a.fWord b.fWord)) (some false) (cond ((Oe a) != (Oe b)) (some false) (cond (a.fLast != b.fLast) (some false) (cond (!(Jc (Ub a) (Ub b))) (some false) (cond (a.fCount != b.fCount) (some false) (cond ((Jd a) != (Jd b)) (some false) (k (.c0 0 a b))))))))
def MAf (k:kS CAU Bool):kS CAU Bool
 |.c0 a b c=>mk (cond (MZ a (Jd b)) (cond (RZ a (Jd b)) (cond (RZ a (Jd c)) (cond (!(((Eb (PZ b) a ⟨0,0,false,false,false,false,IK,0⟩).fId == (Eb (PZ c) a ⟨0,0,false,false,false,false,IK,0⟩).fId) && (((Eb (PZ b) a ⟨0,0,false,false,false,false,IK,0⟩).fKind == (Eb (PZ c) a ⟨0,0,false,false,false,false,IK,0⟩).fKind) && (((Qe (Eb (PZ b) a ⟨0,0,false,false,false,false,IK,0⟩)) == (Qe (Eb (PZ c) a ⟨0,0,false,false,false,false,IK,0⟩))) && (((Bd (Eb (PZ b) a ⟨0,0,false,false,false,false,IK,0⟩)) == (Bd (Eb (PZ c) a ⟨0,0,false,false,false,false,IK,0⟩))) && (((Ld (Eb (PZ b) a ⟨0,0,false,false,false,false,IK,0⟩)) == (Ld (Eb (PZ c) a ⟨0,0,false,false,false,false,IK,0⟩))) && (((Ad (Eb (PZ b) a ⟨0,0,false,false,false,false,IK,0⟩)) == (Ad (Eb (PZ c) a ⟨0,0,false,false,false,false,IK,0⟩))) && ((Jc (Lc (Eb (PZ b) a ⟨0,0,false,false,false,false,IK,0⟩)) (Lc (Eb (PZ c) a ⟨0,0,false,false,false,false,IK,0⟩))) && (((Eb (PZ b) a ⟨0,0,false,false,false,false,IK,0⟩).fNext == (Eb (PZ c) a ⟨0,0,false,false,false,false,IK,0⟩).fNext) && true))))))))) (some false) (k (.c0 (NM a) b c))) none) none) (some true))
def LAK:kN CAU Bool
 |0,_=>none
 |m+1,s=>MAf (LAK m) s
def DAU:Z9:=IAu (LAK gas)
def TBP:fK:=fy u2 DAU cv123 cv1 [] Tryz.func69 SBP MAf IAu LAK
inductive EAU where
 |c0 (a:(List SRec)) (b:Int) (d:ByteArray) (e f:Int) (g:ByteArray) (h:Int) (i:ByteArray) (j l:Int) (n:ByteArray) (o:Int) (p q:(List SThing))
def UBP:EAU→lQ
 |.c0 a b d e f g h i j l n o p q=>(tdo Tryz.f135 464,[vr 1 47 a,vp 4 256,vp 6 384,vi 7 b],[(256,.var [.str d,li e,.own 1016386,li f,.str g,li h]),(384,.var [.str i,li j,.own 1024578,li l,.str n,li o]),(1016386,.sl 45 p),(1024578,.sl 45 q)])
def JAu (b:Vu) (e:Hw) (k:kS EAU (SBook×Bool)):AAA:=fun c d=>mk ((b c).bind fun a=>k (.c0 d 0 IK 0 0 IK 0 a.fWord (Oe a) a.fLast (Ub a) a.fCount [] (PZ a)))
def NAf (a:Vu) (b:Hw) (k:kS EAU (SBook×Bool)):kS EAU (SBook×Bool)
 |.c0 e d m n o p q f g i j l r h=>mk (cond (Gh d e.length) (cond (Ba d e.length) ((b ⟨f,g,h,i,j,l⟩ (Hf e d IK ⟨0,0,false,false,false,false,IK,0⟩)).bind fun c=>cond (!c.2) (some (Yc,false)) (k (.c0 e (NM d) m n o p q c.1.fWord (Oe c.1) c.1.fLast (Ub c.1) c.1.fCount r (PZ c.1)))) none) (some (⟨f,g,h,i,j,l⟩,true)))
def MAK:kN EAU (SBook×Bool)
 |0,_=>none
 |m+1,s=>NAf NAA Az (MAK m) s
def OAf:AAA:=JAu NAA Az (MAK gas)
def VBP:fK:=fy u2 OAf cv124 cv32 [RAo,VAo] Tryz.func135 UBP NAf JAu MAK
def KAu (h:Pq) (i:V9) (j:Y9) (m:Qs) (n:AAA) (o:Z4):E5:=fun l d=>mk ((h d).bind fun e=>cond (!e) (some (Yc,[],false)) ((i d J5).bind fun a=>(j l a.1).bind fun b=>m.bind fun f=>(n f b.1).bind fun c=>cond (!c.2) (some (Yc,[],false)) ((o d Ep).bind fun g=>cond (Gt g) (cond (MZ b.2 (TT a.1)) (cond (Sj b.2 (TT a.1)) (some (c.1,QAn a.1 b.2,true)) none) (some (c.1,[⟨4,Ep,IK,IK⟩],true))) (cond (MZ b.2 (TT a.1)) (cond (Sj b.2 (TT a.1)) (some (c.1,[⟨1,Ep,Rq a.1 b.2,IK⟩,⟨2,Ep,IK,IK⟩,⟨3,Ep,IK,J5⟩],true)) none) (some (c.1,[],true))))))
def NAK:E5:=KAu H6 BAK DAK D6 OAf PAI
def NA7:fK:=fy0 u2 NAK cv125 cv126 [GAd,JA7,KA7,UAP,VBP,LAp] Tryz.func71 KAu
inductive FAU where
 |c0 (a:Int) (b:SBox)
def WBP:FAU→lQ
 |.c0 b a=>(tdo Tryz.f73 208,[vp 1 64,vi 3 b],[(64,.var [.str a.fKey,.bool a.fUp,.rsl 116 a.fDisk.fFiles,.str a.fBook.fWord,li a.fBook.fTries,.rsl 45 a.fBook.fThings,li a.fBook.fLast,.str a.fBook.fChain,li a.fBook.fCount,.rsl 58 a.fSessions,.rsl 126 a.fLives,li a.fOpened])])
def LAu (b:Zn) (c:Ja) (k:kS FAU Bool):Lm:=fun a=>k (.c0 0 a)
def PAf (a:Zn) (b:Ja) (k:kS FAU Bool):kS FAU Bool
 |.c0 c d=>mk (cond (Gh c (Ko d)) (cond (Ba c (Ko d)) ((a d.fBook (Jp d.fLives c).fId).bind fun e=>cond (!e.2) (some false) (cond (e.1.fKind != 2) (some false) (cond (Ba c (Ko d)) ((b (Jp d.fLives c).fNext 0 e.1.fNext).bind fun f=>cond (!f) (some false) (cond (Yl c) (cond (RZ (Um c) (Ko d:Int)) (cond (Ba c (Ko d)) (cond (Wy (d.fLives.getD (Fb (c - 1)) AAc).fId (Jp d.fLives c).fId) (some false) (k (.c0 (NM c) d))) none) none) (k (.c0 (NM c) d)))) none))) none) (some true))
def OAK:kN FAU Bool
 |0,_=>none
 |m+1,s=>PAf Yy Td (OAK m) s
def GAU:Lm:=LAu Yy Td (OAK gas)
def XBP:fK:=fy u1 GAU cv56 cv1 [ZAP,Ji] Tryz.func73 WBP PAf LAu OAK
inductive HAU where
 |c0 (a:Int) (b:SBox)
def YBP:HAU→lQ
 |.c0 b a=>(tdo Tryz.f24 464,[vp 1 64,vi 3 b],[(64,.var [.str a.fKey,.bool a.fUp,.rsl 116 a.fDisk.fFiles,.str a.fBook.fWord,li a.fBook.fTries,.rsl 45 a.fBook.fThings,li a.fBook.fLast,.str a.fBook.fChain,li a.fBook.fCount,.rsl 58 a.fSessions,.rsl 126 a.fLives,li a.fOpened])])
def MAu (d:Pq) (e:Ja) (f:Qs) (g:Z9) (h:E5) (i:Gw) (j:Lm) (k:kS HAU Bool):Lm:=fun a=>mk (cond ((TT a.fKey) != 32) (some false) ((d a.fDisk).bind fun b=>cond (!b) (some false) (cond ((Qg a:Int) > 3) (some false) ((e a.fOpened 0 1000).bind fun c=>cond (!c) (some false) (k (.c0 0 a))))))
def QAf (a:Pq) (b:Ja) (c:Qs) (d:Z9) (e:E5) (f:Gw) (g:Lm) (k:kS HAU Bool):kS HAU Bool
 |.c0 i h=>mk (cond (Gh i (Qg h)) (cond (Ba i (Qg h)) ((b (Yk (Vd h) i ⟨0,false⟩).fId 1 h.fOpened).bind fun l=>cond (!l) (some false) (cond (Yl i) (cond (RZ (Um i) (Qg h:Int)) (cond (Ba i (Qg h)) (cond (Wy ((Vd h).getD (Fb (i - 1)) (⟨0,false⟩:SSession)).fId (Yk (Vd h) i ⟨0,false⟩).fId) (some false) (k (.c0 (NM i) h))) none) none) (k (.c0 (NM i) h)))) none) (UZ (!h.fUp) (UZ (Ib (Qg h:Int)) (UZ (Ib (Ko h:Int)) (c.bind fun m=>V5 (d h.fBook m)) (some false)) (some false)) ((e h.fKey h.fDisk).bind fun j=>UZ j.2.2 (UZ (Ib (j.2.1.length:Int)) (Uj (f h.fBook) (Uj (d j.1 h.fBook) (V5 (g h)) (some false)) (some false)) (some false)) (some false))))
def PAK:kN HAU Bool
 |0,_=>none
 |m+1,s=>QAf H6 Td D6 DAU NAK UAD GAU (PAK m) s
def IAU:Lm:=MAu H6 Td D6 DAU NAK UAD GAU (PAK gas)
def OA7:fK:=fy u1 IAU cv56 cv1 [GAd,Ji,UAP,TBP,NA7,PA5,XBP] Tryz.func24 YBP QAf MAu PAK
def NAu (e:Lm) (f:E5) (g:MAO):UAm:=fun a=>mk (cond a.fUp (some (⟨IK,false,QZ,Yc,[],[],0⟩,false)) ((e a).bind fun d=>cond (!d) (some (⟨IK,false,QZ,Yc,[],[],0⟩,false)) ((f a.fKey a.fDisk).bind fun b=>(g a.fDisk b.2.1).bind fun c=>cond (!b.2.2) (some (⟨IK,false,QZ,Yc,[],[],0⟩,false)) (cond (MZ c.2 (b.2.1.length:Int)) (some (⟨IK,false,QZ,Yc,[],[],0⟩,false)) (some (⟨a.fKey,true,c.1,b.1,[],[],0⟩,true))))))
def JAU:UAm:=NAu IAU NAK TAI
def ZBP:fK:=fy0 u1 JAU cv56 cv49 [OA7,NA7,QAp] Tryz.func157 NAu
def OAu (e:D5) (g:UAm) (d:WAC):D5:=fun a f c=>mk (cond (!c.fRise) (Dv (e a f c)) ((g a.fBox).bind fun b=>cond (!b.2) (Dv (d a 1 IK)) (Dv (d ⟨b.1,a.fCodes,Ph a,a.fGives,a.fDone⟩ 0 IK))))
def Pz:D5:=OAu Oz JAU J6
def PA7:fK:=fy0 u3 Pz cv122 cv62 [RBP,ZBP,HAq] Tryz.func95 OAu [0]
inductive KAU where
 |c0 (a b:Int) (d e:Int) (f g:ByteArray) (h i j:ByteArray) (l:Bool) (n:ByteArray) (o p:Int) (q:ByteArray) (t u:Int) (v w:(List SEvent)) (x:(List SFile)) (y:(List SThing)) (aa:(List SSession)) (ab:(List SLive)) (ac:(List Int)) (ad:(List ByteArray)) (ae:(List SGiven)) (af:(List SRec))
def ABQ:KAU→lQ
 |.c0 a b d e f g h i j l n o p q t u v w x y aa ab ac ad ae af=>(tdo Tryz.f37 4048,[vp 0 0,vp 4 256,vp 5 320,vp 6 384,vi 8 a,vi 9 b],[(0,.var [.csl,li d,li e]),(256,.var [.str f,.str g,.own 1016386]),(320,.var [.str h,.str i,.own 1020482]),(384,.var [.str j,.bool l,.own 1024578,.str n,li o,.own 1024581,li p,.str q,li t,.own 1024585,.own 1024586,li u,.own 1024588,.own 1024589,.own 1024590,.own 1024591]),(1016386,.sl 131 v),(1020482,.sl 131 w),(1024578,.sl 116 x),(1024581,.sl 45 y),(1024585,.sl 58 aa),(1024586,.sl 126 ab),(1024588,.sl 3 ac),(1024589,.sl 9 ad),(1024590,.sl 230 ae),(1024591,.sl 47 af)])
def PAu (d:Dw) (f:Z8) (g:XAG) (h:FAb) (i:D5) (k:kS KAU (SL24Drawn×SL01Cur)):VAm:=fun e j=>mk ((d (XZ e) 3).bind fun b=>(f 32 (w8 (FN (75+b.1)))).bind fun c=>(g c ⟨#[119]⟩).bind fun a=>cond ((FN (8+(FN ((IZ codeL).tdiv 12)))) > 39) (k (.c0 39 0 b.2.fI b.2.fH IK IK c ⟨#[119]⟩ (Qo a.1) a.1.fBox.fUp (Xq a.1) (Yq a.1) (Wq a.1) (Ub (Jf a.1)) (Sm a.1) (Vq a.1) [] [] (Fv a.1) (PZ (Jf a.1)) (Vd a.1.fBox) (Jv a.1) a.1.fCodes (Ph a.1) a.1.fGives a.1.fDone)) (k (.c0 (FN (8+(FN ((IZ codeL).tdiv 12)))) 0 b.2.fI b.2.fH IK IK c ⟨#[119]⟩ (Qo a.1) a.1.fBox.fUp (Xq a.1) (Yq a.1) (Wq a.1) (Ub (Jf a.1)) (Sm a.1) (Vq a.1) [] [] (Fv a.1) (PZ (Jf a.1)) (Vd a.1.fBox) (Jv a.1) a.1.fCodes (Ph a.1) a.1.fGives a.1.fDone)))
def RAf (a:Dw) (b:Z8) (c:XAG) (d:FAb) (e:D5) (k:kS KAU (SL24Drawn×SL01Cur)):kS KAU (SL24Drawn×SL01Cur)
 |.c0 l i o p q r m n t u w x z A B E s j v y C D F G H I=>mk (cond (MZ i l) ((d ⟨(),o,p⟩ ⟨⟨t,u,⟨v⟩,⟨w,x,y,z,A,B⟩,C,D,E⟩,F,G,H,I⟩).bind fun f=>cond ((TT f.1.fCall.fText) > 1000) ((e f.2.2 i ⟨BAc f.1.fCall,f.1.fCut,f.1.fLeft,f.1.fRise⟩).bind fun g=>cond (Nb ((j.length+1)*96)) (k (.c0 l (NM i) f.2.1.fI f.2.1.fH q r m n (Qo g) g.fBox.fUp (Xq g) (Yq g) (Wq g) (Ub (Jf g)) (Sm g) (Vq g) s (j++[(⟨BAc f.1.fCall,f.1.fCut,f.1.fLeft,f.1.fRise⟩:SEvent)]) (Fv g) (PZ (Jf g)) (Vd g.fBox) (Jv g) g.fCodes (Ph g) g.fGives g.fDone)) none) ((e f.2.2 i f.1).bind fun h=>cond (Nb ((j.length+1)*96)) (k (.c0 l (NM i) f.2.1.fI f.2.1.fH q r m n (Qo h) h.fBox.fUp (Xq h) (Yq h) (Wq h) (Ub (Jf h)) (Sm h) (Vq h) s (j++[f.1]) (Fv h) (PZ (Jf h)) (Vd h.fBox) (Jv h) h.fCodes (Ph h) h.fGives h.fDone)) none)) (some (⟨m,n,j⟩,⟨(),o,p⟩)))
def CAB:kN KAU (SL24Drawn×SL01Cur)
 |0,_=>none
 |m+1,s=>RAf Zq PAD YAD XAQ Pz (CAB m) s
def SAf:VAm:=PAu Zq PAD YAD XAQ Pz (CAB gas)
def BBQ:fK:=fy u2 SAf cv127 cv128 [OAD,CA5,ZA5,OBL,PA7] Tryz.func37 ABQ RAf PAu CAB [0]
def QAu (b:Ja):Kw:=fun a=>mk (Uj (b a.fOp 1 13) (Uj (b (Fj a) 0 1000) (Uj (b a.fThing 0 1000) (Uj (b a.fKind 0 3) (some (decide ((TT a.fText)≤1000))) (some false)) (some false)) (some false)) (some false))
def LAU:Kw:=QAu Td
def QA7:fK:=fy0 u1 LAU cv129 cv1 [Ji] Tryz.func25 QAu
def RA7:Kw:=fun a=>mk (some ((Ib a.fOp) && ((Ib (Fj a)) && ((Ib a.fThing) && ((Ib a.fKind) && ((Jc a.fText IK) && ((a.fHidden == false) && ((a.fFixed == false) && true))))))))
def RAu:Kw:=RA7
def CBQ:fK:=fy0 u1 RAu cv129 cv1 [] Tryz.func159 RA7
def SAu (b c:Kw):PAb:=fun a=>mk (UZ ((IZ a.fLeft)≤30) (Uj (b a.fCall) (some true) (UZ a.fRise (V5 (c a.fCall)) (some false))) (some false))
def MAU:PAb:=SAu LAU RAu
def DBQ:fK:=fy0 u1 MAU cv130 cv1 [QA7,CBQ] Tryz.func96 SAu
inductive QAK where
 |c0 (a:(List SEvent)) (an:Bool) (ao:Int) (b:ByteArray) (d:Bool) (e:ByteArray) (f g:Int) (h:ByteArray) (i j:Int) (l:ByteArray) (n:Bool) (o:ByteArray) (p q:Int) (t:ByteArray) (u v:Int) (w:(List SFile)) (x:(List SThing)) (y:(List SSession)) (aa:(List SLive)) (ab:(List Int)) (ac:(List ByteArray)) (ad:(List SGiven)) (ae:(List SRec)) (af:(List SFile)) (ag:(List SThing)) (ah:(List SSession)) (ai:(List SLive)) (aj:(List Int)) (ak:(List ByteArray)) (al:(List SGiven)) (am:(List SRec))
 |c1 (a:(List SEvent)) (ap:Int) (b:ByteArray) (d:Bool) (e:ByteArray) (f g:Int) (h:ByteArray) (i j:Int) (l:ByteArray) (n:Bool) (o:ByteArray) (p q:Int) (t:ByteArray) (u v:Int) (w:(List SFile)) (x:(List SThing)) (y:(List SSession)) (aa:(List SLive)) (ab:(List Int)) (ac:(List ByteArray)) (ad:(List SGiven)) (ae:(List SRec)) (af:(List SFile)) (ag:(List SThing)) (ah:(List SSession)) (ai:(List SLive)) (aj:(List Int)) (ak:(List ByteArray)) (al:(List SGiven)) (am:(List SRec))
def EBQ:QAK→lQ
 |.c0 a an ao b d e f g h i j l n o p q t u v w x y aa ab ac ad ae af ag ah ai aj ak al am=>(tdo Tryz.f38 464,[vr 2 131 a,vp 6 384,vp 8 512,vb 9 an,vi 10 ao],[(384,.var [.str b,.bool d,.own 1024578,.str e,li f,.own 1024581,li g,.str h,li i,.own 1024585,.own 1024586,li j,.own 1024588,.own 1024589,.own 1024590,.own 1024591]),(512,.var [.str l,.bool n,.own 1032770,.str o,li p,.own 1032773,li q,.str t,li u,.own 1032777,.own 1032778,li v,.own 1032780,.own 1032781,.own 1032782,.own 1032783]),(1024578,.sl 116 w),(1024581,.sl 45 x),(1024585,.sl 58 y),(1024586,.sl 126 aa),(1024588,.sl 3 ab),(1024589,.sl 9 ac),(1024590,.sl 230 ad),(1024591,.sl 47 ae),(1032770,.sl 116 af),(1032773,.sl 45 ag),(1032777,.sl 58 ah),(1032778,.sl 126 ai),(1032780,.sl 3 aj),(1032781,.sl 9 ak),(1032782,.sl 230 al),(1032783,.sl 47 am)])
 |.c1 a ap b d e f g h i j l n o p q t u v w x y aa ab ac ad ae af ag ah ai aj ak al am=>(tdo Tryz.f38 2000,[vr 2 131 a,vp 6 384,vp 8 512,vi 11 ap],[(384,.var [.str b,.bool d,.own 1024578,.str e,li f,.own 1024581,li g,.str h,li i,.own 1024585,.own 1024586,li j,.own 1024588,.own 1024589,.own 1024590,.own 1024591]),(512,.var [.str l,.bool n,.own 1032770,.str o,li p,.own 1032773,li q,.str t,li u,.own 1032777,.own 1032778,li v,.own 1032780,.own 1032781,.own 1032782,.own 1032783]),(1024578,.sl 116 w),(1024581,.sl 45 x),(1024585,.sl 58 y),(1024586,.sl 126 aa),(1024588,.sl 3 ab),(1024589,.sl 9 ac),(1024590,.sl 230 ad),(1024591,.sl 47 ae),(1032770,.sl 116 af),(1032773,.sl 45 ag),(1032777,.sl 58 ah),(1032778,.sl 126 ai),(1032780,.sl 3 aj),(1032781,.sl 9 ak),(1032782,.sl 230 al),(1032783,.sl 47 am)])
def TAu (b:XAG) (f:PAb) (g:D5) (h:Qy) (k:kS QAK (SLife×Bool)):WAm:=fun c d e=>mk ((b c d).bind fun a=>k (.c0 e a.2 0 IK false IK 0 0 IK 0 0 (Qo a.1) a.1.fBox.fUp (Xq a.1) (Yq a.1) (Wq a.1) (Ub (Jf a.1)) (Sm a.1) (Vq a.1) [] [] [] [] [] [] [] [] (Fv a.1) (PZ (Jf a.1)) (Vd a.1.fBox) (Jv a.1) a.1.fCodes (Ph a.1) a.1.fGives a.1.fDone))
def RAK (a:XAG) (b:PAb) (c:D5) (d:Qy) (k:kS QAK (SLife×Bool)):kS QAK (SLife×Bool)
 |.c0 e O f g h i j l m n o p q r s t u v w x y z A B C D E F G H I J L M N=>mk (cond (Gh f e.length) (cond O (cond ((e.length:Int)≤40) (cond (Ba f e.length) ((b (e.getD (GZ f) (⟨⟨0,0,0,0,IK,false,false⟩,false,[],false⟩:SEvent))).bind fun P=>k (.c0 e P (NM f) g h i j l m n o p q r s t u v w x y z A B C D E F G H I J L M N)) none) (k (.c0 e false (NM f) g h i j l m n o p q r s t u v w x y z A B C D E F G H I J L M N))) (cond (!O) (some (⟨⟨IK,false,QZ,Yc,[],[],0⟩,[],[],[],[]⟩,false)) (k (.c1 e 0 g h i j l m n o p q r s t u v w x y z A B C D E F G H I J L M N)))) (cond (!O) (some (⟨⟨IK,false,QZ,Yc,[],[],0⟩,[],[],[],[]⟩,false)) (k (.c1 e 0 g h i j l m n o p q r s t u v w x y z A B C D E F G H I J L M N))))
 |.c1 g f z A B C D E F G h i l m o p q t H I J L M N O P j n r s u v w x=>mk (cond (Gh f g.length) (cond (Ba f g.length) ((c ⟨⟨h,i,⟨j⟩,⟨l,m,n,o,p,q⟩,r,s,t⟩,u,v,w,x⟩ f (g.getD (GZ f) (⟨⟨0,0,0,0,IK,false,false⟩,false,[],false⟩:SEvent))).bind fun e=>k (.c1 g (NM f) z A B C D E F G (Qo e) e.fBox.fUp (Xq e) (Yq e) (Wq e) (Ub (Jf e)) (Sm e) (Vq e) H I J L M N O P (Fv e) (PZ (Jf e)) (Vd e.fBox) (Jv e) e.fCodes (Ph e) e.fGives e.fDone)) none) ((d ⟨h,i,⟨j⟩,⟨l,m,n,o,p,q⟩,r,s,t⟩).bind fun y=>some (⟨y,u,v,w,x⟩,true)))
def F7:kN QAK (SLife×Bool)
 |0,_=>none
 |m+1,s=>RAK YAD MAU Pz BAB (F7 m) s
def NAU:WAm:=TAu YAD MAU Pz BAB (F7 gas)
def FBQ:fK:=fy u3 NAU cv131 cv50 [ZA5,DBQ,PA7,MA7] Tryz.func38 EBQ RAK TAu F7
def UAu (c:VAm) (e:WAm):XAm:=fun d f=>mk ((c (XZ d) ()).bind fun a=>(e a.1.fKey a.1.fWord a.1.fEvents).bind fun b=>some (b.1.fBox,XZ a.2))
def TAf:XAm:=UAu SAf NAU
def GBQ:fK:=fy0 u2 TAf cv127 cv132 [BBQ,FBQ] Tryz.func13 UAu [0]
def VAu (d:GAm) (e:XAm) (f:EAb):QAb:=fun g=>mk ((d ()).bind fun c=>(e (XZ c) ()).bind fun a=>(f (XZ a.2) a.1 ⟨#[119]⟩).bind fun b=>cond ((TT b.1.fText) > 1000) (some (a.1,BAc b.1)) (some (a.1,b.1)))
def OAU:QAb:=VAu KAc TAf WAQ
def HBQ:fK:=fy0 u1 OAU cv0 cv133 [UBJ,GBQ,BA6] Tryz.func5 VAu
def SA7:Ja:=fun a b c=>mk (UZ (Wy a b) (some (Ud a c)) (some false))
def Fe:Ja:=SA7
def Xj:fK:=fy0 u3 Fe cv12 cv1 [] Tryz.func29 SA7
inductive PAU where
 |c0 (a:(List SFile)) (b d:Int) (e:SDisk)
def IBQ:PAU→lQ
 |.c0 a b d e=>(tdo Tryz.f28 104,[vp 1 64,vr 6 116 a,vi 7 b,vi 8 d],[(64,.var [.rsl 116 e.fFiles])])
def WAu (b:Ja) (k:kS PAU Bool):Pq:=fun a=>mk (k (.c0 a.fFiles (Af a:Int) 0 a))
def UAf (a:Ja) (k:kS PAU Bool):kS PAU Bool
 |.c0 c e b d=>mk (cond (MZ b e) (cond (Ba b c.length) ((a (TT (c.getD (GZ b) P5).fName) 1 8).bind fun f=>cond (!f) (some false) (cond ((TT (c.getD (GZ b) P5).fText) > 20000) (some false) ((a (c.getD (GZ b) P5).fKept 0 (TT (c.getD (GZ b) P5).fText)).bind fun g=>cond (!g) (some false) (cond (Yl b) (cond (RZ (Um b) (Af d:Int)) (cond (!(Op.bytesLess (Zo (d.fFiles.getD (Fb (b - 1)) P5).fName) (Zo (c.getD (GZ b) P5).fName))) (some false) (k (.c0 c e (NM b) d))) none) (k (.c0 c e (NM b) d)))))) none) (some (decide ((Af d:Int)≤30))))
def SAK:kN PAU Bool
 |0,_=>none
 |m+1,s=>UAf Fe (SAK m) s
def TAK:Pq:=WAu Fe (SAK gas)
def TA7:fK:=fy u1 TAK cv40 cv1 [Xj] Tryz.func28 IBQ UAf WAu SAK
def UA7:Ol:=mk (Oc OAn)
def XAu:Ol:=UA7
def JBQ:fK:=fy0 u0 XAu cv8 cv134 [] Tryz.func49 UA7
def YAu:LZ:=fun a=>mk (Nc ((ZAb a) && (Nb ((GZ a)*1))) (Bl (Vs a)))
def DAB:LZ:=YAu
def VAf:fK:=fy0 u1 DAB cv20 cv7 [] Tryz.func85 YAu
def ZAu:LZ:=fun a=>mk (Bl [w8 (Uy a (24:Int)),w8 (Uy a (16:Int)),w8 (Uy a (8:Int)),w8 a])
def G7:LZ:=ZAu
def WAf:fK:=fy0 u1 G7 cv14 cv7 [] Tryz.func109 ZAu
def AAv (c:LZ):LZ:=fun d=>mk ((c (w32 (Eo d (Ws (32:Int))))).bind fun a=>(c (w32 d)).bind fun b=>Nc (FZ a b) (some (a++b)))
def XAf:LZ:=AAv G7
def KBQ:fK:=fy0 u1 XAf cv20 cv7 [WAf] Tryz.func108 AAv
def BAv (d e:LZ):LZ:=fun c=>mk ((d ((FN (119 - (c.tmod 64))).tmod 64)).bind fun a=>Nc (FZ (Qb ⟨#[128]⟩) a) ((e (FN (8*c))).bind fun b=>Nc (Bf (Qb ⟨#[128]⟩) a b) (some (((Qb ⟨#[128]⟩)++a)++b))))
def YAf:LZ:=BAv DAB XAf
def LBQ:fK:=fy0 u1 YAf cv20 cv7 [VAf,KBQ] Tryz.func50 BAv
def CAv:Qd:=fun b a=>mk (cond (Ej (Na (32 - (CAc a)))) (some (w32 (EAA Dc (w32 (b*(Vl (GZ (CAc a)) Dc))) (Uy b (Na (32 - (CAc a))))))) none)
def ZAf:Qd:=CAv
def MBQ:fK:=fy0 u2 ZAf cv135 cv14 [] Tryz.func225 CAv
def DAv (b:Qd):Qd:=fun c d=>mk ((b c (FN (0 - d))).bind fun a=>some a)
def Zm:Qd:=DAv ZAf
def VA7:fK:=fy0 u2 Zm cv135 cv14 [MBQ] Tryz.func166 DAv
inductive QAU where
 |c0 (d:ByteArray) (e:Int) (a b:(List Int))
 |c1 (d:ByteArray) (f e g:Int) (a b:(List Int))
 |c2 (h:Int) (a b:(List Int))
def NBQ:QAU→lQ
 |.c0 d e a b=>(tdo Tryz.f165 232,[vs 0 d,vp 2 128,vp 3 192,vi 11 e],[(128,.ar 96 a),(192,.ar 96 b)])
 |.c1 d f e g a b=>(tdo Tryz.f165 59800,[vs 0 d,vp 2 128,vp 3 192,vi 4 f,vi 11 e,vi 14 g],[(128,.ar 96 a),(192,.ar 96 b)])
 |.c2 h a b=>(tdo Tryz.f165 976,[vp 2 128,vp 3 192,vi 6 h],[(128,.ar 96 a),(192,.ar 96 b)])
def EAv (b:Qd) (k:kS QAU (List Int)):Ag:=fun a=>mk (k (.c0 a 0 (List.replicate 64 Ea) (List.replicate 64 Ea)))
def EAB (a:Qd) (k:kS QAU (List Int)):kS QAU (List Int)
 |.c0 e b c d=>mk (cond (b<16) (k (.c1 e b b 0 c d)) (k (.c2 16 c d)))
 |.c1 e c f d g b=>mk (cond (d<4) (cond (Dt b) (cond (Qa c b) (cond (RZ (Va (FN (4*c)) d) (TT e)) (cond (Dt b) (cond (Qa c b) (k (.c1 e c f (NM d) g (b.set (GZ c) (w32 (EAA Dc (w32 ((JZ b c)*(Vl (GZ (8:Int)) Dc))) (w32 (bt e (Va (FN (4*c)) d)))))))) none) none) none) none) none) (k (.c0 e (NM f) g b)))
 |.c2 c h b=>mk (cond (c<64) (cond (Dt b) (cond (Yb (c - 15) b) (cond (Dt b) (cond (Yb (c - 2) b) ((a (Uc b (c - 15)) 7).bind fun d=>(a (Uc b (c - 15)) 18).bind fun e=>(a (Uc b (c - 2)) 17).bind fun f=>(a (Uc b (c - 2)) 19).bind fun g=>cond (Dt b) (cond (Yb (c - 7) b) (cond (Dt b) (cond (Yb (c - 16) b) (cond (Dt b) (cond (Qa c b) (k (.c2 (NM c) h (b.set (GZ c) (w32 ((w32 ((w32 ((Jo Dc (Jo Dc f g) (Eo (Uc b (c - 2)) (Vl (GZ (10:Int)) Dc)))+(Uc b (c - 7))))+(Jo Dc (Jo Dc d e) (Eo (Uc b (c - 15)) (Vl (GZ (3:Int)) Dc)))))+(Uc b (c - 16))))))) none) none) none) none) none) none) none) none) none) none) (Ug (Dt b) (Ug ((Bv b h) && (Dt b)) (Ug ((Dt b) && true) (Oc b)))))
def Lr:kN QAU (List Int)
 |0,_=>none
 |m+1,s=>EAB Zm (Lr m) s
def RAU:Ag:=EAv Zm (Lr gas)
def OBQ:fK:=fy u1 RAU cv7 cv134 [VA7] Tryz.func165 NBQ EAB EAv Lr
inductive SAU where
 |c0 (d e:Int) (f g:Int) (h i:Int) (j l n:Int) (a b o:(List Int))
 |c1 (p:Int) (a b q:(List Int))
def PBQ:SAU→lQ
 |.c0 d e f g h i j l n a b o=>(tdo Tryz.f107 488,[vp 2 128,vp 4 256,vp 5 320,(6,[.one (.int .u32 d)]),(7,[.one (.int .u32 e)]),(8,[.one (.int .u32 f)]),(9,[.one (.int .u32 g)]),(10,[.one (.int .u32 h)]),(11,[.one (.int .u32 i)]),(12,[.one (.int .u32 j)]),(13,[.one (.int .u32 l)]),vi 37 n],[(128,.ar 96 a),(256,.ar 96 b),(320,.ar 96 o)])
 |.c1 p a b q=>(tdo Tryz.f107 2024,[vp 2 128,vp 4 256,vp 17 1088,vi 109 p],[(128,.ar 96 a),(256,.ar 96 b),(1088,.ar 96 q)])
def FAv (c:Ag) (e:Qd) (k:kS SAU (List Int)):RAb:=fun a d=>mk ((c d).bind fun b=>cond ((Bv b (List.replicate 64 Ea)) && (Dt b)) (cond (Oh a) (cond (Xw a) (cond (Oh a) (cond (JAP (IZ a)) (cond (Oh a) (cond (EAP (IZ a)) (cond (Oh a) (cond ((Ud Ea (3:Int)) && (decide (3<(IZ a)))) (cond (Oh a) (cond (FAP a) (cond (Oh a) (cond ((Ud Ea (5:Int)) && (decide (5<(IZ a)))) (cond (Oh a) (cond ((Ud Ea (6:Int)) && (decide (6<(IZ a)))) (cond (Oh a) (cond ((Ud Ea (7:Int)) && (decide (7<(IZ a)))) (k (.c0 (JZ a Ea) (JZ a Ti) (JZ a (2:Int)) (JZ a (3:Int)) (JZ a Np) (JZ a (5:Int)) (JZ a (6:Int)) (JZ a (7:Int)) 0 a [0,0,0,0,0,0,0,0] b)) none) none) none) none) none) none) none) none) none) none) none) none) none) none) none) none) none)
def TAU (a:Ag) (b:Qd) (k:kS SAU (List Int)):kS SAU (List Int)
 |.c0 e i j s d g h o c t u f=>mk (cond (c<64) ((b d 6).bind fun l=>(b d 11).bind fun m=>(b d 25).bind fun n=>cond (Ba c (64:Nat)) (cond (Nat.blt (GZ c) 64) (cond (Dt f) (cond (Qa c f) ((b e 2).bind fun p=>(b e 13).bind fun q=>(b e 22).bind fun r=>k (.c0 (w32 ((w32 ((w32 ((w32 ((w32 (o+(Jo Dc (Jo Dc l m) n)))+(FAD (Ap Dc d g) (Ap Dc (w32 ((BitVec.toNat ((BitVec.ofInt Dc (ite ((IntKind.signed IntKind.u32) = true) (-Ti) (IntKind.max IntKind.u32))) ^^^ (BitVec.ofInt Dc d)):Nat):Int)) h))))+(JZ IAn c)))+(JZ f c)))+(w32 ((Jo Dc (Jo Dc p q) r)+(FAD (Dh Dc (w32 (Ap Dc e i)) (w32 (Ap Dc e j))) (Ap Dc i j)))))) e i j (w32 (s+(w32 ((w32 ((w32 ((w32 (o+(Jo Dc (Jo Dc l m) n)))+(FAD (Ap Dc d g) (Ap Dc (w32 ((BitVec.toNat ((BitVec.ofInt Dc (ite ((IntKind.signed IntKind.u32) = true) (-Ti) (IntKind.max IntKind.u32))) ^^^ (BitVec.ofInt Dc d)):Nat):Int)) h))))+(JZ IAn c)))+(JZ f c))))) d g h (NM c) t u f)) none) none) none) none) (k (.c1 0 t u [e,i,j,s,d,g,h,o])))
 |.c1 d e f c=>mk (cond (d<8) (cond (Oh c) (cond (Qa d c) (cond (Oh e) (cond (Qa d e) (cond (Oh c) (cond (Qa d c) (k (.c1 (NM d) e f (c.set (GZ d) (w32 ((JZ c d)+(JZ e d)))))) none) none) none) none) none) none) (Ug (Oh c) (Ug ((Bv c f) && (Oh c)) (Ug ((Oh c) && true) (Oc c)))))
def Px:kN SAU (List Int)
 |0,_=>none
 |m+1,s=>TAU RAU Zm (Px m) s
def UAU:RAb:=FAv RAU Zm (Px gas)
def QBQ:fK:=fy u2 UAU cv136 cv134 [OBQ,VA7] Tryz.func107 PBQ TAU FAv Px
inductive VAU where
 |c0 (a:ByteArray) (b d:(List Int))
def RBQ:VAU→lQ
 |.c0 a b d=>(tdo Tryz.f48 96,[vs 1 a,vp 2 128,vp 4 256],[(128,.ar 96 b),(256,.ar 96 d)])
def GAv (c:RAb) (k:kS VAU (List Int×ByteArray)):YAm:=fun b a=>k (.c0 a b [0,0,0,0,0,0,0,0])
def AAg (a:RAb) (k:kS VAU (List Int×ByteArray)):kS VAU (List Int×ByteArray)
 |.c0 c b e=>mk (cond ((TT c)≥64) (cond (Oh b) (cond ((Ud Ea (64:Int)) && (decide (64≤(TT c)))) ((a b (Rq c (64:Int))).bind fun d=>cond ((Bv d b) && (Oh d)) (cond ((Ud Ea (64:Int)) && (decide (64≤(TT c)))) (k (.c0 (Fp c (64:Int)) d e)) none) none) none) none) (cond (Oh b) (cond ((Bv b e) && (Oh b)) (cond ((Oh b) && true) (some (b,c)) none) none) none))
def UAK:kN VAU (List Int×ByteArray)
 |0,_=>none
 |m+1,s=>AAg UAU (UAK m) s
def BAg:YAm:=GAv UAU (UAK gas)
def SBQ:fK:=fy u2 BAg cv136 cv136 [QBQ] Tryz.func48 RBQ AAg GAv UAK
inductive WAU where
 |c0 (a:ByteArray) (b:(List Int)) (d:Int)
def TBQ:WAU→lQ
 |.c0 a b d=>(tdo Tryz.f51 232,[vs 3 a,(6,[.arr 96 b]),vi 7 d],[])
def HAv (b:LZ) (k:kS WAU ByteArray):Bh:=fun a=>mk (cond (Oh a) (k (.c0 IK a 0)) none)
def IAv (a:LZ) (k:kS WAU ByteArray):kS WAU ByteArray
 |.c0 e c b=>mk (cond (b<8) (cond (Oh c) (cond (Qa b c) ((a (JZ c b)).bind fun d=>cond (FZ e d) (k (.c0 (e++d) c (NM b))) none) none) none) (some e))
def XAU:kN WAU ByteArray
 |0,_=>none
 |m+1,s=>IAv G7 (XAU m) s
def CAg:Bh:=HAv G7 (XAU gas)
def UBQ:fK:=fy u1 CAg cv134 cv7 [WAf] Tryz.func51 TBQ IAv HAv XAU
def JAv (e:Ol) (f:LZ) (g:YAm) (h:Bh):NZ:=fun c=>mk (e.bind fun d=>(f (TT c)).bind fun b=>Nc (FZ c b) ((g d (c++b)).bind fun a=>Nc ((Nat.beq a.1.length 8) && (Oh a.1)) (Nc (Oh a.1) (Pg (h a.1)))))
def Yj:NZ:=JAv XAu YAf BAg CAg
def Qz:fK:=fy0 u1 Yj cv7 cv7 [JBQ,LBQ,SBQ,UBQ] Tryz.func19 JAv
def KAv (c:NZ) (d:LZ):Qs:=mk ((c IK).bind fun a=>(d 32).bind fun b=>some ⟨a,0,[],0,b,0⟩)
def VAK:Qs:=KAv Yj DAB
def WA7:fK:=fy0 u0 VAK cv8 cv19 [Qz,VAf] Tryz.func31 KAv
inductive YAU where
 |c0 (a b:(List SThing)) (d e:Int)
def VBQ:YAU→lQ
 |.c0 a b d e=>(tdo Tryz.f84 232,[vr 0 45 a,vr 1 45 b,vi 12 d,vi 13 e],[])
def LAv (k:kS YAU Bool):ZAm:=fun a b=>cond ((a.length:Int) != (b.length:Int)) (some false) (k (.c0 a b (a.length:Int) 0))
def DAg (k:kS YAU Bool):kS YAU Bool
 |.c0 b c d a=>mk (cond (MZ a d) (cond (Ba a b.length) (cond (Ba a c.length) (cond (!(((Eb b a ⟨0,0,false,false,false,false,IK,0⟩).fId == (Eb c a ⟨0,0,false,false,false,false,IK,0⟩).fId) && (((Eb b a ⟨0,0,false,false,false,false,IK,0⟩).fKind == (Eb c a ⟨0,0,false,false,false,false,IK,0⟩).fKind) && (((Qe (Eb b a ⟨0,0,false,false,false,false,IK,0⟩)) == (Qe (Eb c a ⟨0,0,false,false,false,false,IK,0⟩))) && (((Bd (Eb b a ⟨0,0,false,false,false,false,IK,0⟩)) == (Bd (Eb c a ⟨0,0,false,false,false,false,IK,0⟩))) && (((Ld (Eb b a ⟨0,0,false,false,false,false,IK,0⟩)) == (Ld (Eb c a ⟨0,0,false,false,false,false,IK,0⟩))) && (((Ad (Eb b a ⟨0,0,false,false,false,false,IK,0⟩)) == (Ad (Eb c a ⟨0,0,false,false,false,false,IK,0⟩))) && ((Jc (Lc (Eb b a ⟨0,0,false,false,false,false,IK,0⟩)) (Lc (Eb c a ⟨0,0,false,false,false,false,IK,0⟩))) && (((Eb b a ⟨0,0,false,false,false,false,IK,0⟩).fNext == (Eb c a ⟨0,0,false,false,false,false,IK,0⟩).fNext) && true))))))))) (some false) (k (.c0 b c d (NM a)))) none) none) (some true))
def WAK:kN YAU Bool
 |0,_=>none
 |m+1,s=>DAg (WAK m) s
def EAg:ZAm:=LAv (WAK gas)
def WBQ:fK:=fy u2 EAg cv137 cv1 [] Tryz.func84 VBQ DAg LAv WAK
def MAv (c:ZAm):Z9:=fun a b=>mk (UZ (Jc a.fWord b.fWord) (UZ ((Oe a) == (Oe b)) (Uj (c (PZ a) (PZ b)) (UZ (a.fLast == b.fLast) (UZ (Jc (Ub a) (Ub b)) (some (a.fCount == b.fCount)) (some false)) (some false)) (some false)) (some false)) (some false))
def ZAU:Z9:=MAv EAg
def XBQ:fK:=fy0 u2 ZAU cv123 cv1 [WBQ] Tryz.func30 MAv
inductive AAV where
 |c0 (a:ByteArray) (b:(List SFile)) (d e:Int)
def YBQ:AAV→lQ
 |.c0 a b d e=>(tdo Tryz.f88 104,[vs 1 a,vr 8 116 b,vi 9 d,vi 10 e],[])
def NAv (k:kS AAV Int):Z4:=fun a b=>mk (k (.c0 b a.fFiles (Af a:Int) 0))
def FAg (k:kS AAV Int):kS AAV Int
 |.c0 d b c a=>mk (cond (MZ a c) (cond (Ba a b.length) (cond (Jc (b.getD (GZ a) P5).fName d) (some a) (k (.c0 d b c (NM a)))) none) Uw)
def XAK:kN AAV Int
 |0,_=>none
 |m+1,s=>FAg (XAK m) s
def BAV:Z4:=NAv (XAK gas)
def XA7:fK:=fy u2 BAV cv41 cv20 [] Tryz.func88 YBQ FAg NAv XAK
def OAv (c:Z4):V9:=fun b d=>mk ((c b d).bind fun a=>cond (Qh a) (EZ (IK,false)) (Bc (Ba a (Af b)) (EZ (Nh b a,true))))
def GAg:V9:=OAv BAV
def ZBQ:fK:=fy0 u2 GAg cv41 cv23 [XA7] Tryz.func86 OAv
inductive CAV where
 |c0 (a:ByteArray) (b d e:Int)
def ABR:CAV→lQ
 |.c0 a b d e=>(tdo Tryz.f170 976,[vs 0 a,vi 1 b,vi 7 d,vi 8 e],[])
def DAV (d:Ja) (k:kS CAV (Int×Int×Bool)):Us:=fun c b=>mk ((d b 0 (TT c)).bind fun a=>cond (!a) (some (0,0,false)) (k (.c0 c b 0 0)))
def HAg (a:Ja) (k:kS CAV (Int×Int×Bool)):kS CAV (Int×Int×Bool)
 |.c0 d c e b=>mk (cond (b<5) (cond (MZ (Va c b) (TT d)) (cond (RZ (Va c b) (TT d)) (cond (Ej (FN (7*b))) (cond ((Ri d (Va c b))<128) (cond (Ib (Ri d (Va c b))) (cond (Yl b) (some (0,0,false)) (cond ((RAH e d c b) > 1000000000) (some (0,0,false)) (some (RAH e d c b,NM (Va c b),true)))) (cond ((RAH e d c b) > 1000000000) (some (0,0,false)) (some (RAH e d c b,NM (Va c b),true)))) (k (.c0 d c (RAH e d c b) (NM b)))) none) none) (some (0,0,false))) (some (0,0,false)))
def Qx:kN CAV (Int×Int×Bool)
 |0,_=>none
 |m+1,s=>HAg Fe (Qx m) s
def Ro:Us:=DAV Fe (Qx gas)
def IAg:fK:=fy u2 Ro cv13 cv71 [Xj] Tryz.func170 ABR HAg DAV Qx
inductive EAV where
 |c0 (a:Int) (b:ByteArray) (d:Int)
 |c1 (a:Int) (b:ByteArray) (d e:Int)
def BBR:EAV→lQ
 |.c0 a b d=>(tdo Tryz.f272 208,[(0,[.one (.int .u32 a)]),vs 1 b,vi 5 d],[])
 |.c1 a b d e=>(tdo Tryz.f272 13464,[(0,[.one (.int .u32 a)]),vs 1 b,vi 5 d,vi 19 e],[])
def PAv (k:kS EAV Int):WAG:=fun a b=>k (.c0 a b 0)
def YAK (k:kS EAV Int):kS EAV Int
 |.c0 c b a=>mk (cond (MZ a (TT b)) (cond (RZ a (TT b)) (k (.c1 (Jo Dc c (w32 (bt b a))) b a 0)) none) (some c))
 |.c1 a c d b=>mk (cond (b<8) (cond ((w32 (Ry Dc a)) == 1) (k (.c1 (w32 ((BitVec.toNat ((BitVec.ofInt Dc (Uy a Ti)) ^^^ (BitVec.ofInt Dc 3558460437)):Nat):Int)) c d (NM b))) (k (.c1 (Uy a Ti) c d (NM b)))) (k (.c0 a c (NM d))))
def Rz:kN EAV Int
 |0,_=>none
 |m+1,s=>YAK (Rz m) s
def JAg:WAG:=PAv (Rz gas)
def CBR:fK:=fy u2 JAg cv37 cv14 [] Tryz.func272 BBR YAK PAv Rz
def QAv (b:WAG):F9:=fun c=>(b 4294967295 c).bind fun a=>some a
def ZAK:F9:=QAv JAg
def YA7:fK:=fy0 u1 ZAK cv7 cv14 [CBR] Tryz.func213 QAv
inductive FAV where
 |c0 (a:ByteArray) (b:Int) (d:(List ByteArray))
def DBR:FAV→lQ
 |.c0 a b d=>(tdo Tryz.f151 496,[vs 0 a,vo 4 304,vi 5 b],[(304,.sl 9 d)])
def RAv (b:Us) (c:Ja) (d:F9) (e:LZ) (k:kS FAV (List ByteArray×Int)):W9:=fun a=>mk (cond ((TT a) > 20000) (some ([],0)) (k (.c0 a 0 [])))
def SAv (a:Us) (b:Ja) (c:F9) (d:LZ) (k:kS FAV (List ByteArray×Int)):kS FAV (List ByteArray×Int)
 |.c0 f h g=>mk ((a f h).bind fun e=>cond (!e.2.2) (some (g,h)) ((b e.1 1 9000).bind fun i=>cond (!i) (some (g,h)) (cond (e.1 > (FN ((Ze (TT f) e.2.1) - 4))) (some (g,h)) (cond (Tj (FN (e.2.1+4)) (FN (Rw e)) (TT f)) (cond (Tj e.2.1 (FN (e.2.1+4)) (TT f)) ((c (f.extract (Fb (e.2.1+4)) (Fb (Rw e)))).bind fun j=>(d j).bind fun l=>cond (!(Jc (Ii f e.2.1 (e.2.1+4)) l)) (some (g,h)) (cond (Xl g) (k (.c0 f (FN (Rw e)) (g++[f.extract (Fb (e.2.1+4)) (Fb (Rw e))]))) none)) none) none))))
def GAV:kN FAV (List ByteArray×Int)
 |0,_=>none
 |m+1,s=>SAv Ro Fe ZAK G7 (GAV m) s
def HAV:W9:=RAv Ro Fe ZAK G7 (GAV gas)
def EBR:fK:=fy u1 HAV cv7 cv113 [IAg,Xj,YA7,WAf] Tryz.func151 DBR SAv RAv GAV
inductive IAV where
 |c0 (a:Int) (b:(List Int))
def FBR:IAV→lQ
 |.c0 a b=>(tdo Tryz.f118 224,[vi 0 a,vo 3 240],[(240,.sl 5 b)])
def ZA7 (k:kS IAV ByteArray):LZ:=fun a=>k (.c0 a [])
def KAg (k:kS IAV ByteArray):kS IAV ByteArray
 |.c0 a b=>mk (cond (a > 127) (cond (Qm b) (k (.c0 (FN (a.tdiv 128)) (b++[w8 (FN (128+(a.tmod 128)))]))) none) (Nc (Qm b) (Bl (b++[w8 a]))))
def AAL:kN IAV ByteArray
 |0,_=>none
 |m+1,s=>KAg (AAL m) s
def H7:LZ:=ZA7 (AAL gas)
def QAE:fK:=fy u1 H7 cv20 cv7 [] Tryz.func118 FBR KAg ZA7 AAL
def TAv (d:Ja) (e:LZ):SAb:=fun b=>mk ((d b 0 1000000000).bind fun a=>cond (!a) (EZ (IK,false)) ((e b).bind fun c=>EZ (c,true)))
def JAV:SAb:=TAv Fe H7
def GBR:fK:=fy0 u1 JAV cv20 cv23 [Xj,QAE] Tryz.func226 TAv
def UAv:LZ:=fun a=>mk (Bl [w8 a])
def Xi:LZ:=UAv
def Sz:fK:=fy0 u1 Xi cv20 cv7 [] Tryz.func119 UAv
inductive KAV where
 |c0 (a b d:Int) (e:(List Int))
def HBR:KAV→lQ
 |.c0 a b d e=>(tdo Tryz.f284 232,[(1,[.one (.int .u8 a)]),vo 5 368,vi 10 b,vi 11 d],[(368,.sl 5 e)])
def VAv (k:kS KAV ByteArray):Jy:=fun a b=>mk (cond (Qq a) (k (.c0 b (IZ (Wj a)) 0 (Wj a))) none)
def LAg (k:kS KAV ByteArray):kS KAV ByteArray
 |.c0 d c a b=>mk (cond (MZ a c) (cond (Qa a b) (cond (Qa a b) (k (.c0 d c (NM a) (b.set (GZ a) (w8 (Dh Dp (JZ b a) d))))) none) none) (Bl b))
def BAL:kN KAV ByteArray
 |0,_=>none
 |m+1,s=>LAg (BAL m) s
def CAL:Jy:=VAv (BAL gas)
def IBR:fK:=fy u2 CAL cv33 cv7 [] Tryz.func284 HBR LAg VAv BAL
def WAv (b:NZ) (d:LZ) (e:Jy):Ql:=fun a f=>mk (cond ((TT a) > 64) ((b a).bind fun c=>PAn d c e f b) (PAn d a e f b))
def DAL:Ql:=WAv Yj DAB CAL
def AA8:fK:=fy0 u2 DAL cv34 cv7 [Qz,VAf,IBR] Tryz.func227 WAv
inductive LAV where
 |c0 (a:ByteArray) (b:Int) (d e:ByteArray) (f:Int)
def JBR:LAV→lQ
 |.c0 a b d e f=>(tdo Tryz.f167 2000,[vs 0 a,vi 2 b,vs 8 d,vs 10 e,vi 11 f],[])
def XAv (d:SAb) (f:Ja) (h:LZ) (i:Ql) (k:kS LAV (ByteArray×Bool)):C9:=fun g e c=>mk ((d e).bind fun a=>cond (!a.2) (EZ (IK,false)) ((f c 0 8000).bind fun b=>cond (!b) (EZ (IK,false)) (k (.c0 g c a.1 IK 0))))
def MAg (a:SAb) (b:Ja) (c:LZ) (d:Ql) (k:kS LAV (ByteArray×Bool)):kS LAV (ByteArray×Bool)
 |.c0 l f g e j=>mk (cond (MZ (TT e) f) (cond (FZ IAD g) ((c j).bind fun h=>cond (Bf IAD g h) ((d l ((IAD++g)++h)).bind fun i=>cond (FZ e i) (k (.c0 l f g (e++i) (NM j))) none) none) none) (Bc (Sj f (TT e)) (EZ (Rq e f,true))))
def EAL:kN LAV (ByteArray×Bool)
 |0,_=>none
 |m+1,s=>MAg JAV Fe Xi DAL (EAL m) s
def MAV:C9:=XAv JAV Fe Xi DAL (EAL gas)
def BA8:fK:=fy u3 MAV cv35 cv23 [GBR,Xj,Sz,AA8] Tryz.func167 JBR MAg XAv EAL
def YAv (d:LZ) (f:Ql):D9:=fun g e c=>mk ((d e).bind fun a=>Nc (FZ Gp a) (Nc (Bf Gp a c) ((f g ((Gp++a)++c)).bind fun b=>Nc ((Ud Ea (16:Int)) && (decide (16≤(TT b)))) (some (Rq b (16:Int))))))
def NAV:D9:=YAv H7 DAL
def CA8:fK:=fy0 u3 NAV cv36 cv7 [QAE,AA8] Tryz.func168 YAv
inductive OAV where
 |c0 (a:ByteArray) (b d:Int) (e:(List Int))
def KBR:OAV→lQ
 |.c0 a b d e=>(tdo Tryz.f169 232,[vs 1 a,vo 5 368,vi 10 b,vi 11 d],[(368,.sl 5 e)])
def ZAv (k:kS OAV ByteArray):Ql:=fun a b=>mk (cond (Qq a) (k (.c0 b (IZ (Wj a)) 0 (Wj a))) none)
def NAg (k:kS OAV ByteArray):kS OAV ByteArray
 |.c0 c d a b=>mk (cond (MZ a d) (cond (Qa a b) (cond (RZ a (TT c)) (cond (Qa a b) (k (.c0 c d (NM a) (b.set (GZ a) (w8 (Dh Dp (JZ b a) (bt c a)))))) none) none) none) (Bl b))
def FAL:kN OAV ByteArray
 |0,_=>none
 |m+1,s=>NAg (FAL m) s
def PAV:Ql:=ZAv (FAL gas)
def DA8:fK:=fy u2 PAV cv34 cv7 [] Tryz.func169 KBR NAg ZAv FAL
def AAw (g:C9) (h:D9) (i:Ql):Rl:=fun c d a=>mk (cond (Qh (FN ((TT a) - 16))) (EZ (IK,false)) ((g c d (FN ((TT a) - 16))).bind fun b=>cond (!b.2) (EZ (IK,false)) (Bc (IAP a) ((h c d (FAA a)).bind fun e=>Bc (IAP a) (cond (!(Jc e (a.extract (Fb ((TT a) - 16)) a.size))) (EZ (IK,false)) (Bc (IAP a) ((i (FAA a) b.1).bind fun f=>EZ (f,true))))))))
def GAL:Rl:=AAw MAV NAV PAV
def EA8:fK:=fy0 u3 GAL cv36 cv23 [BA8,CA8,DA8] Tryz.func110 AAw
def OAg (c:Us):AAn:=fun a=>(c a.fText a.fAt).bind fun b=>cond (!b.2.2) (some (0,⟨a.fText,a.fAt,true⟩)) (some (b.1,⟨a.fText,b.2.1,a.fBad⟩))
def HAL:AAn:=OAg Ro
def LBR:fK:=fy0 u1 HAL cv138 cv139 [IAg] Tryz.func113 OAg [0]
def QAV (c:Us):TAb:=fun b d=>mk ((c b d).bind fun a=>cond (!a.2.2) (some (IK,0,false)) (cond (a.1 > 20000) (some (IK,0,false)) (cond (a.1 > (Ze (TT b) a.2.1)) (some (IK,0,false)) (cond (Tj a.2.1 (Va a.2.1 a.1) (TT b)) (some (Ii b a.2.1 (a.2.1+a.1),Va a.2.1 a.1,true)) none))))
def I7:TAb:=QAV Ro
def FA8:fK:=fy0 u2 I7 cv13 cv140 [IAg] Tryz.func111 QAV
def PAg (c:TAb):BAn:=fun a=>mk ((c a.fText a.fAt).bind fun b=>cond (!b.2.2) (some (IK,⟨a.fText,a.fAt,true⟩)) (some (b.1,⟨a.fText,b.2.1,a.fBad⟩)))
def IAL:BAn:=PAg I7
def MBR:fK:=fy0 u1 IAL cv138 cv141 [FA8] Tryz.func114 PAg [0]
def BAw (c:Ja):Yn:=fun a=>mk ((c a.fId 1 1000).bind fun b=>UZ (!b) (some false) ((c a.fNext 0 16).bind fun d=>UZ (!d) (some false) (UZ (a.fKind != 2) (UZ (a.fNext != 0) (some false) (UZ (Ld a) (some false) (UZ (a.fKind != 1) (UZ (Ad a) (some false) (SAO a a.fKind (Nw (Lc a)) (a.fKind == 3) (QAH a) (some false))) (SAO a a.fKind (Nw (Lc a)) (a.fKind == 3) (QAH a) (some false))))) (UZ (a.fKind != 1) (UZ (Ad a) (some false) (SAO a a.fKind (Nw (Lc a)) (a.fKind == 3) (QAH a) (some false))) (SAO a a.fKind (Nw (Lc a)) (a.fKind == 3) (QAH a) (some false))))))
def J7:Yn:=BAw Fe
def RAV:fK:=fy0 u1 J7 cv21 cv1 [Xj] Tryz.func89 BAw
inductive SAV where
 |c0 (a b d:Int) (e:(List Bool))
def NBR:SAV→lQ
 |.c0 a b d e=>(tdo Tryz.f120 232,[vi 3 a,vo 14 944,vi 15 b,vi 16 d],[(944,.sl 4 e)])
def CAw (k:kS SAV Int):CAn:=fun a=>mk (k (.c0 0 ((4:Nat):Int) 0 [Qe a,Bd a,Ld a,Ad a]))
def GA8 (k:kS SAV Int):kS SAV Int
 |.c0 d c a b=>mk (cond (MZ a c) (cond (Ba a b.length) (cond (b.getD (GZ a) false) (cond (Ej a) (k (.c0 (FN (EAA Bg d (FN (1*(Ws a))))) c (NM a) b)) none) (k (.c0 d c (NM a) b))) none) (some d))
def QAg:kN SAV Int
 |0,_=>none
 |m+1,s=>GA8 (QAg m) s
def RAg:CAn:=CAw (QAg gas)
def OBR:fK:=fy u1 RAg cv21 cv20 [] Tryz.func120 NBR GA8 CAw QAg
def DAw (c:LZ):NZ:=fun b=>mk ((c (TT b)).bind fun a=>Nc (FZ a b) (some (a++b)))
def SAg:NZ:=DAw H7
def PBR:fK:=fy0 u1 SAg cv7 cv7 [QAE] Tryz.func121 DAw
def EAw (l:Yn) (h i:LZ) (m:CAn) (n:NZ):Uu:=fun a=>mk ((l a).bind fun g=>cond (!g) (EZ (IK,false)) ((h a.fId).bind fun b=>(i a.fKind).bind fun c=>Bc (FZ b c) ((m a).bind fun j=>(i j).bind fun d=>Bc (Bf b c d) ((n (Lc a)).bind fun e=>Bc (Bf (b++c) d e) ((h a.fNext).bind fun f=>Bc (Bf ((b++c)++d) e f) (EZ ((((b++c)++d)++e)++f,true)))))))
def JAL:Uu:=EAw J7 H7 Xi RAg SAg
def FAw:fK:=fy0 u1 JAL cv21 cv23 [RAV,QAE,Sz,OBR,PBR] Tryz.func61 EAw
def TAg (b:AAn) (i:BAn) (j:Uu):J9:=fun h=>mk ((b ⟨h,0,false⟩).bind fun a=>(b a.2).bind fun c=>(b c.2).bind fun d=>(i d.2).bind fun e=>(b e.2).bind fun f=>(j (LAn a c d e f)).bind fun g=>cond f.2.fBad (some (⟨0,0,false,false,false,false,IK,0⟩,false)) (cond (!g.2) (some (⟨0,0,false,false,false,false,IK,0⟩,false)) (cond (!(Jc g.1 h)) (some (⟨0,0,false,false,false,false,IK,0⟩,false)) (some (LAn a c d e f,true)))))
def Tz:J9:=TAg HAL IAL JAL
def HA8:fK:=fy0 u1 Tz cv7 cv27 [LBR,MBR,FAw] Tryz.func56 TAg
def GAw (j:LZ) (m:Ja) (o:Uu) (b:LZ):Ew:=fun a=>mk (cond (a.fKind == 1) (cond (!(Nw a.fText)) (EZ (IK,false)) (cond (!((Vy a.fKind) && (((Zo a.fText) == (Zo a.fText)) && ((Ib a.fNum) && (((Ib (OZ a).fId) && ((Ib (OZ a).fKind) && (((Qe (OZ a)) == false) && (((Bd (OZ a)) == false) && (((Ld (OZ a)) == false) && (((Ad (OZ a)) == false) && ((LAD a) && ((Ib (OZ a).fNext) && true)))))))) && true))))) (EZ (IK,false)) ((b a.fKind).bind fun d=>Bc (FZ d a.fText) (EZ (d++a.fText,true))))) (cond (a.fKind == 2) ((j a.fNum).bind fun e=>(m a.fNum 0 3).bind fun l=>cond (!l) (EZ (IK,false)) (cond (!((Vy a.fKind) && ((Jc a.fText IK) && ((Vy a.fNum) && (((Ib (OZ a).fId) && ((Ib (OZ a).fKind) && (((Qe (OZ a)) == false) && (((Bd (OZ a)) == false) && (((Ld (OZ a)) == false) && (((Ad (OZ a)) == false) && ((LAD a) && ((Ib (OZ a).fNext) && true)))))))) && true))))) (EZ (IK,false)) ((b a.fKind).bind fun f=>Bc (FZ f e) (EZ (f++e,true))))) (cond (a.fKind == 3) ((o (OZ a)).bind fun c=>cond (!c.2) (EZ (IK,false)) (cond (!((Vy a.fKind) && ((Jc a.fText IK) && ((Ib a.fNum) && (((Vy (OZ a).fId) && ((Vy (OZ a).fKind) && (((Qe (OZ a)) == (Qe (OZ a))) && (((Bd (OZ a)) == (Bd (OZ a))) && (((Ld (OZ a)) == (Ld (OZ a))) && (((Ad (OZ a)) == (Ad (OZ a))) && (((Zo (Lc (OZ a))) == (Zo (Lc (OZ a)))) && ((Vy (OZ a).fNext) && true)))))))) && true))))) (EZ (IK,false)) ((b a.fKind).bind fun g=>Bc (FZ g c.1) (EZ (g++c.1,true))))) (cond (a.fKind == 4) ((j a.fNum).bind fun h=>(m a.fNum 1 1000).bind fun n=>cond (!n) (EZ (IK,false)) (cond (!((Vy a.fKind) && ((Jc a.fText IK) && ((Vy a.fNum) && (((Ib (OZ a).fId) && ((Ib (OZ a).fKind) && (((Qe (OZ a)) == false) && (((Bd (OZ a)) == false) && (((Ld (OZ a)) == false) && (((Ad (OZ a)) == false) && ((LAD a) && ((Ib (OZ a).fNext) && true)))))))) && true))))) (EZ (IK,false)) ((b a.fKind).bind fun i=>Bc (FZ i h) (EZ (i++h,true))))) (EZ (IK,false))))))
def TAV:Ew:=GAw H7 Fe JAL Xi
def IA8:fK:=fy0 u1 TAV cv24 cv23 [QAE,Xj,FAw,Sz] Tryz.func90 GAw
def RAE (h:J9) (i:Us) (c:Ew):X9:=fun a=>mk (cond (Jc a IK) (some (⟨0,IK,0,⟨0,0,false,false,false,false,IK,0⟩⟩,false)) (cond (F5 Ea (TT a)) (cond ((FN (bt a 0)) == 1) (cond (CAP a) ((c ⟨FN (bt a 0),Fp a Ti,0,⟨0,0,false,false,false,false,IK,0⟩⟩).bind fun b=>cond (!b.2) (some (⟨0,IK,0,⟨0,0,false,false,false,false,IK,0⟩⟩,false)) (cond (!(Jc b.1 a)) (some (⟨0,IK,0,⟨0,0,false,false,false,false,IK,0⟩⟩,false)) (some (⟨FN (bt a 0),Fp a Ti,0,⟨0,0,false,false,false,false,IK,0⟩⟩,true)))) none) (cond ((FN (bt a 0)) == 3) (cond (CAP a) ((h (Fp a Ti)).bind fun d=>(c ⟨FN (bt a 0),IK,0,d.1⟩).bind fun e=>cond (!e.2) (some (⟨0,IK,0,⟨0,0,false,false,false,false,IK,0⟩⟩,false)) (cond (!(Jc e.1 a)) (some (⟨0,IK,0,⟨0,0,false,false,false,false,IK,0⟩⟩,false)) (some (⟨FN (bt a 0),IK,0,d.1⟩,true)))) none) ((i a 1).bind fun f=>(c ⟨FN (bt a 0),IK,f.1,⟨0,0,false,false,false,false,IK,0⟩⟩).bind fun g=>cond (!g.2) (some (⟨0,IK,0,⟨0,0,false,false,false,false,IK,0⟩⟩,false)) (cond (!(Jc g.1 a)) (some (⟨0,IK,0,⟨0,0,false,false,false,false,IK,0⟩⟩,false)) (some (⟨FN (bt a 0),IK,f.1,⟨0,0,false,false,false,false,IK,0⟩⟩,true)))))) none))
def Rx:X9:=RAE Tz Ro TAV
def QBR:fK:=fy0 u1 Rx cv7 cv114 [HA8,IAg,IA8] Tryz.func152 RAE
def HAw (f:Ja) (g:LZ) (h:F9) (i:LZ):Iw:=fun a=>mk ((f (TT a) 1 9000).bind fun d=>cond (!d) (EZ (IK,false)) ((g (TT a)).bind fun b=>(h a).bind fun e=>(i e).bind fun c=>Bc (FZ b c) (Bc (Bf b c a) (EZ ((b++c)++a,true)))))
def UAV:Iw:=HAw Fe H7 ZAK G7
def RBR:fK:=fy0 u1 UAV cv7 cv23 [Xj,QAE,YA7,WAf] Tryz.func153 HAw
inductive VAV where
 |c0 (a:ByteArray) (b d e:Int) (f:(List SRec)) (g:(List ByteArray))
def SBR:VAV→lQ
 |.c0 a b d e f g=>(tdo Tryz.f87 1000,[vs 0 a,vo 8 560,vi 9 b,vo 23 1520,vi 24 d,vi 25 e],[(560,.sl 47 f),(1520,.sl 9 g)])
def IAw (b:W9) (e:Rl) (f:X9) (g:Iw) (k:kS VAV (List SRec×Int)):Y9:=fun d c=>mk ((b c).bind fun a=>k (.c0 d 0 (Mc a.1) 0 [] a.1))
def UAg (a:W9) (b:Rl) (c:X9) (d:Iw) (k:kS VAV (List SRec×Int)):kS VAV (List SRec×Int)
 |.c0 m h l e f g=>mk (cond (MZ e l) (cond (Po e g) ((b m (NM e) (Me g e IK)).bind fun i=>(c i.1).bind fun j=>cond (!i.2) (some (f,h)) (cond (!j.2) (some (f,h)) (cond (Nb ((f.length+1)*80)) ((d (Me g e IK)).bind fun n=>k (.c0 m (Va h (TT n.1)) l (NM e) (f++[j.1]) g)) none))) none) (some (f,h)))
def KAL:kN VAV (List SRec×Int)
 |0,_=>none
 |m+1,s=>UAg HAV GAL Rx UAV (KAL m) s
def VAg:Y9:=IAw HAV GAL Rx UAV (KAL gas)
def TBR:fK:=fy u2 VAg cv34 cv115 [EBR,EA8,QBR,RBR] Tryz.func87 SBR UAg IAw KAL
def JAw:Vu:=fun a=>mk (cond (Nb ((PZ a).length*48)) (some a) none)
def LAL:Vu:=JAw
def JA8:fK:=fy0 u1 LAL cv25 cv19 [] Tryz.func35 JAw
inductive WAV where
 |c0 (a:(List SThing)) (b d:Int) (e:SBook)
def UBR:WAV→lQ
 |.c0 b d e a=>(tdo Tryz.f33 104,[vp 1 64,vr 6 45 b,vi 7 d,vi 8 e],[(64,.var [.str a.fWord,li a.fTries,.rsl 45 a.fThings,li a.fLast,.str a.fChain,li a.fCount])])
def KAw (b:Yn) (c:Ja) (k:kS WAV Bool):Gw:=fun a=>mk (k (.c0 (PZ a) (Jd a) 0 a))
def WAg (a:Yn) (b:Ja) (k:kS WAV Bool):kS WAV Bool
 |.c0 e f d c=>mk (cond (MZ d f) (cond (Ba d e.length) ((a (Eb e d ⟨0,0,false,false,false,false,IK,0⟩)).bind fun g=>cond (!g) (some false) (cond ((Eb e d ⟨0,0,false,false,false,false,IK,0⟩).fId > c.fLast) (some false) (cond (Yl d) (cond (RZ (Um d) (Jd c)) (cond (Wy (Eb (PZ c) (Um d) ⟨0,0,false,false,false,false,IK,0⟩).fId (Eb e d ⟨0,0,false,false,false,false,IK,0⟩).fId) (some false) (k (.c0 e f (NM d) c))) none) (k (.c0 e f (NM d) c))))) none) (UZ (Nw c.fWord) (UZ (Nw (Ub c)) (Uj (b (Oe c) 0 3) (UZ ((Jd c)≤8) (Uj (b c.fLast 0 1000) (V5 (b c.fCount 0 10000)) (some false)) (some false)) (some false)) (some false)) (some false)))
def SAE:kN WAV Bool
 |0,_=>none
 |m+1,s=>WAg J7 Fe (SAE m) s
def MAL:Gw:=KAw J7 Fe (SAE gas)
def KA8:fK:=fy u1 MAL cv25 cv1 [RAV,Xj] Tryz.func33 UBR WAg KAw SAE
inductive XAV where
 |c0 (a:Int) (b:(List SThing)) (d e:Int)
def VBR:XAV→lQ
 |.c0 a b d e=>(tdo Tryz.f58 104,[vi 1 a,vr 8 45 b,vi 9 d,vi 10 e],[])
def LA8 (k:kS XAV Int):RAO:=fun a b=>mk (k (.c0 b (PZ a) (Jd a) 0))
def XAg (k:kS XAV Int):kS XAV Int
 |.c0 d b c a=>mk (cond (MZ a c) (cond (Ba a b.length) (cond ((Eb b a ⟨0,0,false,false,false,false,IK,0⟩).fId == d) (some a) (k (.c0 d b c (NM a)))) none) Uw)
def TAE:kN XAV Int
 |0,_=>none
 |m+1,s=>XAg (TAE m) s
def YAV:RAO:=LA8 (TAE gas)
def LAw:fK:=fy u2 YAV cv26 cv20 [] Tryz.func58 VBR XAg LA8 TAE
def MAw:UAC:=fun b a=>mk (UZ (a.fKind == b.fKind) (UZ (Jc (Lc a) (Lc b)) (UZ ((Ld a) == (Ld b)) (UZ ((Ad a) == (Ad b)) (UZ (Wy a.fNext b.fNext) (UZ (Qe a) (UZ (Bd a) (some true) (some (!(Bd b)))) (UZ (!(Qe b)) (UZ (Bd a) (some true) (some (!(Bd b)))) (some false))) (some false)) (some false)) (some false)) (some false)) (some false))
def YAg:UAC:=MAw
def WBR:fK:=fy0 u2 YAg cv28 cv1 [] Tryz.func154 MAw
def NAw (e:RAO) (f:UAC):DAn:=fun a c=>mk ((e a c.fId).bind fun b=>cond (Gt b) (cond (RZ b (Jd a)) ((f (Eb (PZ a) b ⟨0,0,false,false,false,false,IK,0⟩) c).bind fun d=>cond (!d) (some (false,a)) (cond (RZ b (Jd a)) (some (true,⟨a.fWord,Oe a,(PZ a).set (GZ b) c,a.fLast,Ub a,a.fCount⟩)) none)) none) (cond (c.fId != (NM a.fLast)) (some (false,a)) (cond ((Jd a)≥8) (some (false,a)) (cond (Nb (((PZ a).length+1)*48)) (some (true,⟨a.fWord,Oe a,(PZ a)++[c],c.fId,Ub a,a.fCount⟩)) none))))
def ZAg:DAn:=NAw YAV YAg
def XBR:fK:=fy0 u2 ZAg cv142 cv143 [LAw,WBR] Tryz.func91 NAw [0]
def OAw (o:Ew) (p:Gw) (q:Vu) (r:DAn) (s:RAO) (g:NZ):Hw:=fun a d=>mk ((o d).bind fun c=>(p a).bind fun h=>cond (!h) (some (Yc,false)) (cond (!c.2) (some (Yc,false)) (cond (a.fCount≥10000) (some (Yc,false)) ((q a).bind fun b=>cond (d.fKind == 1) (cond (Vm a c) ((g ((Ub a)++c.1)).bind fun i=>some (⟨d.fText,0,PZ b,b.fLast,i,Ho b⟩,true)) none) (cond (d.fKind == 2) (cond (Vm a c) ((g ((Ub a)++c.1)).bind fun j=>some (⟨b.fWord,d.fNum,PZ b,b.fLast,j,Ho b⟩,true)) none) (cond (d.fKind == 3) ((r b (OZ d)).bind fun f=>cond (!f.1) (some (Yc,false)) (cond (Vm a c) ((g ((Ub a)++c.1)).bind fun l=>some (⟨f.2.fWord,Oe f.2,PZ f.2,f.2.fLast,l,Ho f.2⟩,true)) none)) (cond (d.fKind == 4) ((s a d.fNum).bind fun e=>cond (Qh e) (some (Yc,false)) (cond (Sj e (Jd a)) (cond (Nb ((((PZ a).take (GZ e)).drop 0).length*48)) (cond (Sj (NM e) (Jd a)) (cond (Nb (((((PZ a).take (GZ e)).drop 0).length+(((PZ a).take (PZ a).length).drop (GZ (NM e))).length)*48)) (cond (Vm a c) ((g ((Ub a)++c.1)).bind fun m=>some (⟨b.fWord,Oe b,(((PZ a).take (GZ e)).drop 0)++(((PZ a).take (PZ a).length).drop (GZ (NM e))),b.fLast,m,Ho b⟩,true)) none) none) none) none) none)) (cond (Vm a c) ((g ((Ub a)++c.1)).bind fun n=>some (⟨b.fWord,Oe b,PZ b,b.fLast,n,Ho b⟩,true)) none))))))))
def ZAV:Hw:=OAw TAV MAL LAL ZAg YAV Yj
def YBR:fK:=fy0 u2 ZAV cv31 cv32 [IA8,KA8,JA8,XBR,LAw,Qz] Tryz.func36 OAw
inductive AAW where
 |c0 (a:(List SRec)) (b d:Int) (e:ByteArray) (f g:Int) (h:ByteArray) (i:Int) (j:ByteArray) (l n:Int) (o:ByteArray) (p:Int) (q t:(List SThing))
def ZBR:AAW→lQ
 |.c0 a b d e f g h i j l n o p q t=>(tdo Tryz.f11 232,[vp 4 256,vp 6 384,vr 13 47 a,vi 14 b,vi 15 d],[(256,.var [.str e,li f,.own 1016386,li g,.str h,li i]),(384,.var [.str j,li l,.own 1024578,li n,.str o,li p]),(1016386,.sl 45 q),(1024578,.sl 45 t)])
def PAw (c:Vu) (e:Hw) (k:kS AAW (SBook×Bool)):AAA:=fun d b=>mk ((c d).bind fun a=>k (.c0 b (b.length:Int) 0 IK 0 0 IK 0 a.fWord (Oe a) a.fLast (Ub a) a.fCount [] (PZ a)))
def AAh (a:Vu) (b:Hw) (k:kS AAW (SBook×Bool)):kS AAW (SBook×Bool)
 |.c0 e f d n o p q r g h j l m s i=>mk (cond (MZ d f) (cond (Ba d e.length) ((b ⟨g,h,i,j,l,m⟩ (Hf e d IK ⟨0,0,false,false,false,false,IK,0⟩)).bind fun c=>cond (!c.2) (some (Yc,false)) (k (.c0 e f (NM d) n o p q r c.1.fWord (Oe c.1) c.1.fLast (Ub c.1) c.1.fCount s (PZ c.1)))) none) (some (⟨g,h,i,j,l,m⟩,true)))
def NAL:kN AAW (SBook×Bool)
 |0,_=>none
 |m+1,s=>AAh LAL ZAV (NAL m) s
def UAE:AAA:=PAw LAL ZAV (NAL gas)
def MA8:fK:=fy u2 UAE cv124 cv32 [JA8,YBR] Tryz.func11 ZBR AAh PAw NAL
def QAw (h:V9) (i:Y9) (l:Qs) (m:AAA) (n:Pq) (o:Z4):E5:=fun j d=>mk ((h d J5).bind fun a=>(i j a.1).bind fun b=>l.bind fun e=>(m e b.1).bind fun c=>(n d).bind fun f=>cond (!f) (some (Yc,[],false)) (cond (!c.2) (some (Yc,[],false)) ((o d Ep).bind fun g=>cond (Gt g) (cond (b.2 == (TT a.1)) (some (c.1,[⟨4,Ep,IK,IK⟩],true)) (cond (Sj b.2 (TT a.1)) (some (c.1,QAn a.1 b.2,true)) none)) (cond (b.2 == (TT a.1)) (some (c.1,[],true)) (cond (Sj b.2 (TT a.1)) (some (c.1,[⟨1,Ep,Rq a.1 b.2,IK⟩,⟨2,Ep,IK,IK⟩,⟨3,Ep,IK,J5⟩],true)) none)))))
def BAW:E5:=QAw GAg VAg VAK UAE TAK BAV
def ABS:fK:=fy0 u2 BAW cv125 cv126 [ZBQ,TBR,WA7,MA8,TA7,XA7] Tryz.func32 QAw
def RAw (c:RAO):Zn:=fun b d=>mk ((c b d).bind fun a=>cond (Qh a) (some (⟨0,0,false,false,false,false,IK,0⟩,false)) (cond (RZ a (Jd b)) (some (Eb (PZ b) a ⟨0,0,false,false,false,false,IK,0⟩,true)) none))
def VAE:Zn:=RAw YAV
def SAw:fK:=fy0 u2 VAE cv26 cv27 [LAw] Tryz.func22 RAw
inductive CAW where
 |c0 (a:(List SLive)) (b d:Int) (e:SBox)
def BBS:CAW→lQ
 |.c0 b d e a=>(tdo Tryz.f34 104,[vp 1 64,vr 8 126 b,vi 9 d,vi 10 e],[(64,.var [.str a.fKey,.bool a.fUp,.rsl 116 a.fDisk.fFiles,.str a.fBook.fWord,li a.fBook.fTries,.rsl 45 a.fBook.fThings,li a.fBook.fLast,.str a.fBook.fChain,li a.fBook.fCount,.rsl 58 a.fSessions,.rsl 126 a.fLives,li a.fOpened])])
def TAw (b:Zn) (c:Ja) (k:kS CAW Bool):Lm:=fun a=>mk (k (.c0 a.fLives (Ko a:Int) 0 a))
def BAh (a:Zn) (b:Ja) (k:kS CAW Bool):kS CAW Bool
 |.c0 d g c e=>mk (cond (MZ c g) (cond (Ba c d.length) ((a e.fBook (Jp d c).fId).bind fun f=>cond (!f.2) (some false) (cond (f.1.fKind != 2) (some false) ((b (Jp d c).fNext 0 f.1.fNext).bind fun h=>cond (!h) (some false) (cond (Yl c) (cond (RZ (Um c) (Ko e:Int)) (cond (Wy (e.fLives.getD (Fb (c - 1)) AAc).fId (Jp d c).fId) (some false) (k (.c0 d g (NM c) e))) none) (k (.c0 d g (NM c) e)))))) none) (some true))
def OAL:kN CAW Bool
 |0,_=>none
 |m+1,s=>BAh VAE Fe (OAL m) s
def DAW:Lm:=TAw VAE Fe (OAL gas)
def CBS:fK:=fy u1 DAW cv56 cv1 [SAw,Xj] Tryz.func34 BBS BAh TAw OAL
inductive EAW where
 |c0 (a:(List SSession)) (b d:Int) (e:SBox)
def DBS:EAW→lQ
 |.c0 b d e a=>(tdo Tryz.f9 488,[vp 1 64,vr 44 58 b,vi 45 d,vi 46 e],[(64,.var [.str a.fKey,.bool a.fUp,.rsl 116 a.fDisk.fFiles,.str a.fBook.fWord,li a.fBook.fTries,.rsl 45 a.fBook.fThings,li a.fBook.fLast,.str a.fBook.fChain,li a.fBook.fCount,.rsl 58 a.fSessions,.rsl 126 a.fLives,li a.fOpened])])
def UAw (e:Pq) (f:Ja) (g:Qs) (h:Z9) (i:E5) (j:Gw) (l:Lm) (k:kS EAW Bool):Lm:=fun a=>mk (cond ((TT a.fKey) != 32) (some false) ((e a.fDisk).bind fun b=>cond (!b) (some false) ((f a.fOpened 0 1000).bind fun c=>cond (!c) (some false) (cond (!a.fUp) (UZ (Ib (Qg a:Int)) (UZ (Ib (Ko a:Int)) (g.bind fun d=>V5 (h a.fBook d)) (some false)) (some false)) (k (.c0 (Vd a) (Qg a:Int) 0 a))))))
def FAW (a:Pq) (b:Ja) (c:Qs) (d:Z9) (e:E5) (f:Gw) (g:Lm) (k:kS EAW Bool):kS EAW Bool
 |.c0 j m h i=>mk (cond (MZ h m) (cond (Ba h j.length) (cond (h≥3) (some false) ((b (Yk j h ⟨0,false⟩).fId 1 i.fOpened).bind fun n=>cond (!n) (some false) (cond (Yl h) (cond (RZ (Um h) (Qg i:Int)) (cond (Wy ((Vd i).getD (Fb (h - 1)) (⟨0,false⟩:SSession)).fId (Yk j h ⟨0,false⟩).fId) (some false) (k (.c0 j m (NM h) i))) none) (k (.c0 j m (NM h) i))))) none) ((e i.fKey i.fDisk).bind fun l=>Uj (f i.fBook) (UZ l.2.2 (UZ (Ib (l.2.1.length:Int)) (Uj (d l.1 i.fBook) (V5 (g i)) (some false)) (some false)) (some false)) (some false)))
def PAL:kN EAW Bool
 |0,_=>none
 |m+1,s=>FAW TAK Fe VAK ZAU BAW MAL DAW (PAL m) s
def FAB:Lm:=UAw TAK Fe VAK ZAU BAW MAL DAW (PAL gas)
def NA8:fK:=fy u1 FAB cv56 cv1 [TA7,Xj,WA7,XBQ,ABS,KA8,CBS] Tryz.func9 DBS FAW UAw PAL
def VAw (b:Ja):Kw:=fun a=>mk (Uj (b a.fOp 1 13) (Uj (b (Fj a) 0 1000) (Uj (b a.fThing 0 1000) (Uj (b a.fKind 0 3) (some (decide ((TT a.fText)≤1000))) (some false)) (some false)) (some false)) (some false))
def QAL:Kw:=VAw Fe
def OA8:fK:=fy0 u1 QAL cv129 cv1 [Xj] Tryz.func10 VAw
def WAw:YAC:=fun a=>mk (cond (Ba a (10:Nat)) (some ([],a,Me [Oo,Qb GAD,Qb ⟨#[115,101,115,115,105,111,110]⟩,Qb ⟨#[108,111,99,107,101,100]⟩,Qb ⟨#[119,111,114,100]⟩,TAH,Qb DAP,Qb ⟨#[110,111,110,101]⟩,Qb DAA,Qb GAA] a IK)) none)
def GAB:YAC:=WAw
def GAW:fK:=fy0 u1 GAB cv20 cv64 [] Tryz.func15 WAw
def PA8:LZ:=fun a=>mk (cond (a<10) (Nc (Tj a (NM a) (TT MAn)) (some (MAn.extract (GZ a) (GZ (NM a))))) (Nc (Tj (FN (a*2)) (FN ((FN (a*2))+2)) (TT JAn)) (some (JAn.extract (Fb (a*2)) (Fb ((FN (a*2))+2))))))
def internal_strconv_small:LZ:=PA8
def EBS:fK:=fy0 u1 internal_strconv_small cv20 cv7 [] Tryz.func221 PA8
def internal_strconv_numDigits:Ac:=fun _=>none
def FBS:fK:=fs u1 internal_strconv_numDigits cv93 cv20 222
def internal_strconv_formatBase10:ZAC:=fun _ _=>none
def GBS:fK:=fs u2 internal_strconv_formatBase10 cv144 cv145 223
def QA8:YA4:=fun _ _ _ _ _=>none
def HBS:fK:=fs u5 QA8 cv146 cv147 224
def RA8 (e:LZ) (b:Ac) (l:ZAC) (j:YA4):Z8:=fun a c=>mk (cond (c == 10) (cond (Ej a) (cond (a<100) (Pg (e a)) (cond (Qh a) ((b (Na (0 - (Na a)))).bind fun f=>none) ((b (Na a)).bind fun g=>none))) (cond (Qh a) ((b (Na (0 - (Na a)))).bind fun h=>none) ((b (Na a)).bind fun i=>none))) ((j [] (Na a) c (Qh a) false).bind fun d=>some d.2))
def SA8:Z8:=RA8 internal_strconv_small internal_strconv_numDigits internal_strconv_formatBase10 QA8
def IBS:fK:=fy0 u2 SA8 cv102 cv7 [EBS,FBS,GBS,HBS] Tryz.func164 RA8
def TA8 (a:Z8):LZ:=fun b=>mk (Pg (a b 10))
def internal_strconv_Itoa:LZ:=TA8 SA8
def JBS:fK:=fy0 u1 internal_strconv_Itoa cv20 cv7 [IBS] Tryz.func106 TA8
def UA8 (a:LZ):LZ:=fun b=>mk (Pg (a b))
def strconv_Itoa:LZ:=UA8 internal_strconv_Itoa
def KBS:fK:=fy0 u1 strconv_Itoa cv20 cv7 [JBS] Tryz.func47 UA8
def VA8 (a:LZ):LZ:=fun b=>mk (Pg (a b))
def IAB:LZ:=VA8 strconv_Itoa
def XAw:fK:=fy0 u1 IAB cv20 cv7 [KBS] Tryz.func16 VA8
inductive HAW where
 |c0 (a:Int) (b:(List SSession)) (d e:Int)
def LBS:HAW→lQ
 |.c0 a b d e=>(tdo Tryz.f17 104,[vi 1 a,vr 8 58 b,vi 9 d,vi 10 e],[])
def YAw (k:kS HAW Int):Bo:=fun a b=>mk (k (.c0 b (Vd a) (Qg a:Int) 0))
def CAh (k:kS HAW Int):kS HAW Int
 |.c0 d b c a=>mk (cond (MZ a c) (cond (Ba a b.length) (cond ((Yk b a ⟨0,false⟩).fId == d) (some a) (k (.c0 d b c (NM a)))) none) Uw)
def RAL:kN HAW Int
 |0,_=>none
 |m+1,s=>CAh (RAL m) s
def DAh:Bo:=YAw (RAL gas)
def MBS:fK:=fy u2 DAh cv67 cv20 [] Tryz.func17 LBS CAh YAw RAL
def ZAw (c:YAC) (e:NZ):Fh:=fun a f=>mk (cond ((Oe a.fBook)≥3) (VZ (c 3)) ((e f.fText).bind fun d=>cond (!(Jc d a.fBook.fWord)) ((c 4).bind fun b=>some ([⟨2,IK,NM (Oe a.fBook),⟨0,0,false,false,false,false,IK,0⟩⟩],b.2.1,b.2.2)) (cond (Ib (Oe a.fBook)) (some ([],0,IK)) (some ([⟨2,IK,0,⟨0,0,false,false,false,false,IK,0⟩⟩],0,IK)))))
def EAh:Fh:=ZAw GAB Yj
def NBS:fK:=fy0 u2 EAh cv68 cv64 [GAW,Qz] Tryz.func18 ZAw
def AAx (d:NZ):YAG:=fun a b=>mk (cond (a == 1) ((d b).bind fun c=>some (⟨0,a,true,false,false,true,c,0⟩,true)) (cond (a == 2) ((d b).bind fun e=>some (⟨0,a,true,false,true,false,e,0⟩,true)) (cond (a == 3) (cond ((TT b)≤100) (some (⟨0,a,false,false,false,false,b,0⟩,true)) (some (⟨0,0,false,false,false,false,IK,0⟩,false))) (some (⟨0,0,false,false,false,false,IK,0⟩,false)))))
def FAh:YAG:=AAx Yj
def OBS:fK:=fy0 u2 FAh cv63 cv27 [Qz] Tryz.func52 AAx
def BAx (e:YAC) (c:LZ):H9:=fun b d a j=>mk (cond (!j) (VZ (e 6)) (cond ((Jd b.fBook)≥8) (VZ (e 1)) (cond (b.fBook.fLast≥1000) (VZ (e 1)) (cond (Qe a) (cond (Bd a) ((c (Zk b)).bind fun f=>some ([⟨3,IK,0,⟨Zk b,a.fKind,true,true,Ld a,Ad a,Lc a,a.fNext⟩⟩],0,f)) ((c (Zk b)).bind fun g=>some ([⟨3,IK,0,⟨Zk b,a.fKind,true,d.fFixed,Ld a,Ad a,Lc a,a.fNext⟩⟩],0,g))) (cond (Bd a) ((c (Zk b)).bind fun h=>some ([⟨3,IK,0,⟨Zk b,a.fKind,d.fHidden,true,Ld a,Ad a,Lc a,a.fNext⟩⟩],0,h)) ((c (Zk b)).bind fun i=>some ([⟨3,IK,0,⟨Zk b,a.fKind,d.fHidden,d.fFixed,Ld a,Ad a,Lc a,a.fNext⟩⟩],0,i)))))))
def IAW:H9:=BAx GAB IAB
def WA8:fK:=fy0 u4 IAW cv70 cv64 [GAW,XAw] Tryz.func53 BAx
def CAx (h:LZ) (f:YAG) (g:H9):Fh:=fun c a=>mk (cond (a.fKind == 2) ((h (Zk c)).bind fun b=>cond (FZ b JAD) (cond (FZ (b++JAD) a.fText) ((f a.fKind ((b++JAD)++a.fText)).bind fun d=>VZ (g c a d.1 d.2)) none) none) ((f a.fKind a.fText).bind fun e=>VZ (g c a e.1 e.2)))
def GAh:Fh:=CAx IAB FAh IAW
def PBS:fK:=fy0 u2 GAh cv68 cv64 [XAw,OBS,WA8] Tryz.func20 CAx
def DAx (b:NZ):Ky:=fun a=>mk (Nc (FZ TAH a.fKey) (Pg (b (TAH++a.fKey))))
def JAW:Ky:=DAx Yj
def XA8:fK:=fy0 u1 JAW cv56 cv7 [Qz] Tryz.func55 DAx
def EAx (d e:LZ):NZ:=fun b=>mk ((d (TT b)).bind fun a=>Nc (FZ a b) ((e ((FN (16 - ((TT (a++b)).tmod 16))).tmod 16)).bind fun c=>Nc (Bf a b c) (some ((a++b)++c))))
def KAW:NZ:=EAx H7 DAB
def YA8:fK:=fy0 u1 KAW cv7 cv7 [QAE,VAf] Tryz.func112 EAx
def FAx (d:Rl) (g:TAb) (h:NZ):Og:=fun e f=>mk ((d e 0 f).bind fun b=>(g b.1 0).bind fun a=>cond (!b.2) (EZ (IK,false)) (cond (!a.2.2) (EZ (IK,false)) (cond ((TT a.1) > 400) (EZ (IK,false)) ((h a.1).bind fun c=>cond (!(Jc c b.1)) (EZ (IK,false)) (EZ (a.1,true))))))
def HAh:Og:=FAx GAL I7 KAW
def QBS:fK:=fy0 u2 HAh cv34 cv23 [EA8,FA8,YA8] Tryz.func54 FAx
def ZA8:AAH:=fun a=>mk (some ⟨0,a.fKind,Qe a,Bd a,false,Ad a,Lc a,0⟩)
def GAx:AAH:=ZA8
def RBS:fK:=fy0 u1 GAx cv21 cv21 [] Tryz.func57 ZA8
def HAx (h:Ky) (i:Og) (j:J9) (l:AAH) (g:H9):Fh:=fun a c=>mk ((h a).bind fun f=>(i f c.fText).bind fun b=>(j b.1).bind fun d=>(l d.1).bind fun e=>cond b.2 (VZ (g a c e d.2)) (VZ (g a c e false)))
def IAh:Fh:=HAx JAW HAh Tz GAx IAW
def SBS:fK:=fy0 u2 IAh cv68 cv64 [XA8,QBS,HA8,RBS,WA8] Tryz.func21 HAx
def IAx (d:Yn):BAH:=fun a b=>mk ((d a).bind fun c=>UZ (!c) (some false) (UZ (b == 1) (some (!(Qe a))) (UZ (b == 2) (UZ (!(Bd a)) (some (a.fKind != 2)) (some false)) (UZ (b == 3) (some (Ld a)) (UZ (b == 4) (some (Ad a)) (some (b == 5)))))))
def JAh:BAH:=IAx J7
def TBS:fK:=fy0 u2 JAh cv76 cv1 [RAV] Tryz.func59 IAx
inductive MAW where
 |c0 (a:Int) (b:(List SLive)) (d e:Int)
def UBS:MAW→lQ
 |.c0 a b d e=>(tdo Tryz.f171 104,[vi 1 a,vr 8 126 b,vi 9 d,vi 10 e],[])
def JAx (k:kS MAW Int):Bo:=fun a b=>mk (k (.c0 b a.fLives (Ko a:Int) 0))
def KAh (k:kS MAW Int):kS MAW Int
 |.c0 d b c a=>mk (cond (MZ a c) (cond (Ba a b.length) (cond ((Jp b a).fId == d) (some a) (k (.c0 d b c (NM a)))) none) Uw)
def SAL:kN MAW Int
 |0,_=>none
 |m+1,s=>KAh (SAL m) s
def LAh:Bo:=JAx (SAL gas)
def VBS:fK:=fy u2 LAh cv67 cv20 [] Tryz.func171 UBS KAh JAx SAL
def KAx (e:Zn) (f:Bo):Bo:=fun b d=>mk ((e b.fBook d).bind fun a=>cond (!a.2) Uw (cond (a.1.fKind != 2) Uw ((f b d).bind fun c=>cond (Gt c) (cond (Ba c (Ko b)) (some (Jp b.fLives c).fNext) none) (some a.1.fNext))))
def MAh:Bo:=KAx VAE LAh
def WBS:fK:=fy0 u2 MAh cv67 cv20 [SAw,VBS] Tryz.func115 KAx
def LAx (b:NZ):NZ:=fun c=>mk ((b c).bind fun a=>Nc ((Ud Ea Np) && (decide (4≤(TT a)))) (some (Rq a Np)))
def Nr:NZ:=LAx Yj
def NAW:fK:=fy0 u1 Nr cv7 cv7 [Qz] Tryz.func289 LAx
inductive OAW where
 |c0 (a:ByteArray) (b d:Int) (e:(List ByteArray))
def XBS:OAW→lQ
 |.c0 a b d e=>(tdo Tryz.f231 232,[vs 0 a,vi 1 b,vo 5 368,vi 7 d],[(368,.sl 9 e)])
def MAx (c:LZ) (d:NZ) (k:kS OAW (List ByteArray)):Ny:=fun a b=>k (.c0 a b 0 [])
def NAh (a:LZ) (b:NZ) (k:kS OAW (List ByteArray)):kS OAW (List ByteArray)
 |.c0 d h f g=>mk (cond (f<10) ((a h).bind fun c=>cond (FZ d c) ((a f).bind fun e=>cond (Bf d c e) (cond (FZ ((d++c)++e) (Qb ⟨#[111]⟩)) ((b (((d++c)++e)++(Qb ⟨#[111]⟩))).bind fun i=>cond (Xl g) (k (.c0 d h (NM f) (g++[i]))) none) none) none) none) (some g))
def WAE:kN OAW (List ByteArray)
 |0,_=>none
 |m+1,s=>NAh Xi Nr (WAE m) s
def TAL:Ny:=MAx Xi Nr (WAE gas)
def AA9:fK:=fy u2 TAL cv13 cv78 [Sz,NAW] Tryz.func231 XBS NAh MAx WAE
def NAx:Ac:=fun a=>some 0
def OAh:Ac:=NAx
def YBS:fK:=fy0 u1 OAh cv20 cv20 [] Tryz.func321 NAx
def OAx:Ac:=fun a=>some 15
def PAh:Ac:=OAx
def ZBS:fK:=fy0 u1 PAh cv20 cv20 [] Tryz.func322 OAx
inductive PAW where
 |c0 (a:ByteArray) (b d:Int) (e f g:Int)
def ABT:PAW→lQ
 |.c0 a b d e f g=>(tdo Tryz.f288 104,[vs 0 a,vi 1 b,vi 2 d,vi 3 e,vi 13 f,vi 14 g],[])
def PAx (f:LZ) (g:NZ) (k:kS PAW ByteArray):Wu:=fun b c d e a=>k (.c0 b c d e (ite (15<a) 15 a) 0)
def QAh (a:LZ) (b:NZ) (k:kS PAW ByteArray):kS PAW ByteArray
 |.c0 g i j l h f=>mk (cond (MZ f h) ((a i).bind fun c=>(a j).bind fun d=>cond (FZ c d) ((a (Va l f)).bind fun e=>cond (Bf c d e) (cond (Bf (c++d) e g) ((b (((c++d)++e)++g)).bind fun m=>k (.c0 m i j l h (NM f))) none) none) none) (some g))
def UAL:kN PAW ByteArray
 |0,_=>none
 |m+1,s=>QAh Xi Nr (UAL m) s
def N7:Wu:=PAx Xi Nr (UAL gas)
def BA9:fK:=fy u5 N7 cv79 cv7 [Sz,NAW] Tryz.func288 ABT QAh PAx UAL
inductive QAW where
 |c0 (a:Int) (b d:Nat) (e:ByteArray) (f:(List ByteArray)) (g h:Int)
def BBT:QAW→lQ
 |.c0 a b d e f g h=>(tdo Tryz.f320 488,[vi 1 a,(2,[.one (.fn b)]),(3,[.one (.fn d)]),vs 9 e,vr 15 9 f,vi 16 g,vi 17 h],[])
def QAx (e f:Ac) (g:Wu) (h:NZ) (k:kS QAW ByteArray):EAn:=fun a b c d=>mk (cond ((Mc a) != 10) Gv (k (.c0 b c d IK a (Mc a) 0)))
def RAh (a b:Ac) (c:Wu) (d:NZ) (k:kS QAW ByteArray):kS QAW ByteArray
 |.c0 j i f h g l e=>mk (cond (MZ e l) (cond (Po e g) (cond (Nat.beq i 180) none (cond (Nat.beq i 295) none (cond (Nat.beq i 321) ((a e).bind fun m=>cond (Nat.beq f 180) none (cond (Nat.beq f 295) none (cond (Nat.beq f 321) ((a e).bind fun s=>(c (Me g e IK) j e m s).bind fun n=>cond (FZ h n) (k (.c0 j i f (h++n) g l (NM e))) none) (cond (Nat.beq f 322) ((b e).bind fun t=>(c (Me g e IK) j e m t).bind fun o=>cond (FZ h o) (k (.c0 j i f (h++o) g l (NM e))) none) none)))) (cond (Nat.beq i 322) ((b e).bind fun p=>cond (Nat.beq f 180) none (cond (Nat.beq f 295) none (cond (Nat.beq f 321) ((a e).bind fun u=>(c (Me g e IK) j e p u).bind fun q=>cond (FZ h q) (k (.c0 j i f (h++q) g l (NM e))) none) (cond (Nat.beq f 322) ((b e).bind fun v=>(c (Me g e IK) j e p v).bind fun r=>cond (FZ h r) (k (.c0 j i f (h++r) g l (NM e))) none) none)))) none)))) none) (Pg (d h)))
def JAB:kN QAW ByteArray
 |0,_=>none
 |m+1,s=>RAh OAh PAh N7 Nr (JAB m) s
def RAx:EAn:=QAx OAh PAh N7 Nr (JAB gas)
def CBT:fK:=fy u4 RAx cv148 cv7 [YBS,ZBS,BA9,NAW] Tryz.func320 BBT RAh QAx JAB
def SAx (a:EAn):L9:=fun b c=>mk (Pg (a b c 321 322))
def RAW:L9:=SAx RAx
def DBT:fK:=fy0 u2 RAW cv80 cv7 [CBT] Tryz.func286 SAx
inductive SAW where
 |c0 (a:ByteArray) (b:Int) (d:(List ByteArray))
def EBT:SAW→lQ
 |.c0 a b d=>(tdo Tryz.f229 232,[vs 0 a,vo 3 240,vi 5 b],[(240,.sl 9 d)])
def TAx (b:Ny) (c:L9) (k:kS SAW (List ByteArray)):N9:=fun a=>k (.c0 a 0 [])
def SAh (a:Ny) (b:L9) (k:kS SAW (List ByteArray)):kS SAW (List ByteArray)
 |.c0 f c d=>mk (cond (c<4) ((a f c).bind fun e=>(b e c).bind fun g=>cond (Xl d) (k (.c0 f (NM c) (d++[g]))) none) (some d))
def VAL:kN SAW (List ByteArray)
 |0,_=>none
 |m+1,s=>SAh TAL RAW (VAL m) s
def TAW:N9:=TAx TAL RAW (VAL gas)
def CA9:fK:=fy u1 TAW cv7 cv78 [AA9,DBT] Tryz.func229 EBT SAh TAx VAL
def UAx (e:LZ) (h:NZ):O9:=fun f g c d=>mk ((e f).bind fun a=>(e g).bind fun b=>Nc (FZ a b) (Nc (Bf a b c) (Nc (Bf (a++b) c d) (Nc (FZ (((a++b)++c)++d) (Qb ⟨#[110]⟩)) (Pg (h ((((a++b)++c)++d)++(Qb ⟨#[110]⟩))))))))
def KAB:O9:=UAx Xi Nr
def FBT:fK:=fy0 u4 KAB cv81 cv7 [Sz,NAW] Tryz.func319 UAx
inductive UAW where
 |c0 (a:Int) (b:(List ByteArray)) (d:Int) (e:(List ByteArray))
def GBT:UAW→lQ
 |.c0 a b d e=>(tdo Tryz.f285 464,[vi 0 a,vr 1 9 b,vo 5 368,vi 6 d],[(368,.sl 9 e)])
def TAh (c:O9) (k:kS UAW (List ByteArray)):Xu:=fun a b=>k (.c0 a b 0 [])
def VAW (a:O9) (k:kS UAW (List ByteArray)):kS UAW (List ByteArray)
 |.c0 f c b d=>mk (cond (MZ (NM b) (Mc c)) (cond (Po b c) (cond (RZ (NM b) (Mc c)) ((a f (Fg b) (Me c b IK) (Me c (NM b) IK)).bind fun e=>cond (Xl d) (k (.c0 f c (FN (b+2)) (d++[e]))) none) none) none) (some d))
def LAB:kN UAW (List ByteArray)
 |0,_=>none
 |m+1,s=>VAW KAB (LAB m) s
def O7:Xu:=TAh KAB (LAB gas)
def DA9:fK:=fy u2 O7 cv82 cv78 [FBT] Tryz.func285 GBT VAW TAh LAB
inductive WAW where
 |c0 (a:(List ByteArray)) (b:Int)
 |c1 (b:Int) (a:(List ByteArray))
def HBT:WAW→lQ
 |.c0 a b=>(tdo Tryz.f228 464,[vr 0 9 a,vi 3 b],[])
 |.c1 b a=>(tdo Tryz.f228 464,[vo 0 48,vi 3 b],[(48,.sl 9 a)])
def VAx (b:Xu) (k:kS WAW ByteArray):CAH:=fun a=>mk (cond ((Mc a) != 4) Gv (k (.c0 a 1)))
def UAh (a:Xu) (k:kS WAW ByteArray):kS WAW ByteArray
 |.c0 b d=>mk (cond ((Mc b) > 1) ((a d b).bind fun c=>k (.c1 (NM d) c)) (HAP b))
 |.c1 d b=>mk (cond ((Mc b) > 1) ((a d b).bind fun c=>k (.c1 (NM d) c)) (HAP b))
def WAL:kN WAW ByteArray
 |0,_=>none
 |m+1,s=>UAh O7 (WAL m) s
def VAh:CAH:=VAx O7 (WAL gas)
def IBT:fK:=fy u1 VAh cv83 cv7 [DA9] Tryz.func228 HBT UAh VAx WAL
def WAx (b:N9) (d:CAH):NZ:=fun c=>mk ((b c).bind fun a=>Pg (d a))
def XAL:NZ:=WAx TAW VAh
def EA9:fK:=fy0 u1 XAL cv7 cv7 [CA9,IBT] Tryz.func172 WAx
inductive XAW where
 |c0 (a:Int) (d:ByteArray) (e:Int) (b:(List Int))
 |c1 (a f g:Int) (b:(List Int))
def JBT:XAW→lQ
 |.c0 a d e b=>(tdo Tryz.f287 1000,[vo 3 240,vi 4 a,vs 5 d,vi 11 e],[(240,.sl 3 b)])
 |.c1 a f g b=>(tdo Tryz.f287 2024,[vo 3 240,vi 4 a,vo 28 240,vi 29 f,vi 30 g],[(240,.sl 3 b)])
def XAx (b:NZ) (k:kS XAW (List Int)):Ag:=fun c=>(b c).bind fun a=>k (.c0 0 a 0 [])
def YAL (a:NZ) (k:kS XAW (List Int)):kS XAW (List Int)
 |.c0 e c b d=>mk (cond (b<4) (cond (RZ b (TT c)) (cond (RZ b (TT c)) (cond (Nb ((d.length+2)*8)) (k (.c0 e c (NM b) (d++[FN (Eo (bt c b) (Vl (GZ Np) Dp)),FN (w8 ((BitVec.toNat ((BitVec.ofInt Dp (bt c b)) &&& (BitVec.ofInt Dp 15)):Nat):Int))]))) none) none) none) (k (.c1 e (IZ d) 0 d)))
 |.c1 d e c b=>mk (cond (MZ c e) (cond (Qa c b) (k (.c1 (Va d (FN (15 - (JZ b c)))) e (NM c) b)) none) (Ug (Nb ((b.length+2)*8)) (Oc (b++[MAD d,d.tmod 16]))))
def P7:kN XAW (List Int)
 |0,_=>none
 |m+1,s=>YAL Nr (P7 m) s
def YAW:Ag:=XAx Nr (P7 gas)
def KBT:fK:=fy u1 YAW cv7 cv84 [NAW] Tryz.func287 JBT YAL XAx P7
inductive ZAW where
 |c0 (a:Int) (b:(List ByteArray)) (d e:Int) (f:(List Int)) (g:(List ByteArray))
def LBT:ZAW→lQ
 |.c0 a b d e f g=>(tdo Tryz.f230 1000,[vi 1 a,vo 7 496,vo 8 560,vr 16 9 b,vi 17 d,vi 18 e],[(496,.sl 3 f),(560,.sl 9 g)])
def YAx (c:Ag) (f:Wu) (k:kS ZAW (List ByteArray)):DAH:=fun a e d=>mk (cond ((Mc a) != 10) (some []) ((c d).bind fun b=>k (.c0 e a (Mc a) 0 b [])))
def WAh (a:Ag) (b:Wu) (k:kS ZAW (List ByteArray)):kS ZAW (List ByteArray)
 |.c0 i d g c e f=>mk (cond (MZ c g) (cond (Po c d) (cond (Qa c e) ((b (Me d c IK) i c 0 (JZ e c)).bind fun h=>cond (Xl f) (k (.c0 i d g (NM c) e (f++[h]))) none) none) none) (some f))
def ZAL:kN ZAW (List ByteArray)
 |0,_=>none
 |m+1,s=>WAh YAW N7 (ZAL m) s
def XAh:DAH:=YAx YAW N7 (ZAL gas)
def MBT:fK:=fy u3 XAh cv85 cv78 [KBT,BA9] Tryz.func230 LBT WAh YAx ZAL
inductive AAX where
 |c0 (a:(List ByteArray)) (b d:Int) (e:(List ByteArray))
 |c1 (b d:Int) (a e:(List ByteArray))
def NBT:AAX→lQ
 |.c0 a b d e=>(tdo Tryz.f232 976,[vr 0 9 a,vi 1 b,vo 5 368,vi 6 d],[(368,.sl 9 e)])
 |.c1 b d a e=>(tdo Tryz.f232 976,[vo 0 48,vi 1 b,vo 5 368,vi 6 d],[(48,.sl 9 a),(368,.sl 9 e)])
def ZAx (d:Ja) (e:Xu) (k:kS AAX (List ByteArray)):EAH:=fun a c=>mk (cond ((Mc a) != 4) (some []) ((d c 0 3).bind fun b=>cond (!b) (some []) (k (.c0 a c 1 []))))
def YAh (a:Ja) (b:Xu) (k:kS AAX (List ByteArray)):kS AAX (List ByteArray)
 |.c0 c d g e=>mk (cond ((Mc c) > 1) (cond (RZ (FN (XAO d)) (Mc c)) (cond (Xl e) ((b g c).bind fun f=>k (.c1 (Fg d) (NM g) f (e++[c.getD (Fb (XAO d)) Oo]))) none) none) (some e))
 |.c1 d g c e=>mk (cond ((Mc c) > 1) (cond (RZ (FN (XAO d)) (Mc c)) (cond (Xl e) ((b g c).bind fun f=>k (.c1 (Fg d) (NM g) f (e++[c.getD (Fb (XAO d)) Oo]))) none) none) (some e))
def MAB:kN AAX (List ByteArray)
 |0,_=>none
 |m+1,s=>YAh Fe O7 (MAB m) s
def ZAh:EAH:=ZAx Fe O7 (MAB gas)
def OBT:fK:=fy u2 ZAh cv80 cv78 [Xj,DA9] Tryz.func232 NBT YAh ZAx MAB
def AAy (h:Ja) (i:Ny) (j:DAH) (m:N9) (n:EAH):FAH:=fun d a l=>mk ((h a 0 3).bind fun b=>cond (!b) (some (KAD,false)) ((i d a).bind fun c=>(j c a l).bind fun e=>(m d).bind fun f=>(n f a).bind fun g=>some (⟨a,e,g⟩,true)))
def AAM:FAH:=AAy Fe TAL XAh TAW ZAh
def PBT:fK:=fy0 u3 AAM cv36 cv86 [Xj,AA9,MBT,CA9,OBT] Tryz.func173 AAy
def BAy (i:Ja) (j:LZ) (l:NZ) (g:FAH):GAH:=fun a c m=>mk ((i c 0 15).bind fun e=>cond (!e) (some (⟨KAD,IK,KAD⟩,false)) ((j (IAA c)).bind fun b=>cond (FZ a b) (cond (FZ (a++b) UAH) ((l ((a++b)++UAH)).bind fun d=>(g ((a++b)++UAH) (c.tmod 4) m).bind fun f=>cond (FZ a Gp) ((g (a++Gp) (IAA c) d).bind fun h=>some (⟨h.1,d,f.1⟩,true)) none) none) none))
def AAi:GAH:=BAy Fe Xi XAL AAM
def QBT:fK:=fy0 u3 AAi cv36 cv87 [Xj,Sz,EA9,PBT] Tryz.func116 BAy
inductive BAX where
 |c0 (a:(List ByteArray)) (b:Int) (d:(List ByteArray)) (e f:Int)
def RBT:BAX→lQ
 |.c0 a b d e f=>(tdo Tryz.f290 104,[vr 0 9 a,vi 1 b,vr 7 9 d,vi 8 e,vi 9 f],[])
def CAy (k:kS BAX Bool):FAn:=fun a b=>mk (k (.c0 a b a (Mc a) 0))
def DAy (k:kS BAX Bool):kS BAX Bool
 |.c0 d e b c a=>mk (cond (MZ a c) (cond (Po a b) (cond ((TT (Me b a IK)) != 4) (some false) (k (.c0 d e b c (NM a)))) none) (some ((Mc d) == e)))
def CAX:kN BAX Bool
 |0,_=>none
 |m+1,s=>DAy (CAX m) s
def BAi:FAn:=CAy (CAX gas)
def SBT:fK:=fy u2 BAi cv80 cv1 [] Tryz.func290 RBT DAy CAy CAX
def EAy (c:Ja) (b:FAn):P9:=fun a=>mk (Uj (c a.fLeaf 0 3) (Uj (b a.fOnce 10) (V5 (b a.fPath 2)) (some false)) (some false))
def DAX:P9:=EAy Fe BAi
def TBT:fK:=fy0 u1 DAX cv88 cv1 [Xj,SBT] Tryz.func233 EAy
inductive EAX where
 |c0 (a:ByteArray) (b:(List ByteArray)) (d e:Int) (f:SSig)
 |c1 (a:ByteArray) (g:(List ByteArray)) (h i:Int)
def UBT:EAX→lQ
 |.c0 a d e f b=>(tdo Tryz.f174 488,[vp 1 64,vs 4 a,vr 16 9 d,vi 17 e,vi 18 f],[(64,.var [li b.fLeaf,.rsl 9 b.fOnce,.rsl 9 b.fPath])])
 |.c1 a g h i=>(tdo Tryz.f174 1000,[vs 4 a,vr 27 9 g,vi 28 h,vi 29 i],[])
def FAy (d:P9) (e:LZ) (k:kS EAX (ByteArray×Bool)):HAH:=fun a=>mk ((d a).bind fun b=>cond (!b) (EZ (IK,false)) ((e a.fLeaf).bind fun c=>k (.c0 c a.fOnce (Mc a.fOnce) 0 a)))
def BAM (a:P9) (b:LZ) (k:kS EAX (ByteArray×Bool)):kS EAX (ByteArray×Bool)
 |.c0 e d g c f=>mk (cond (MZ c g) (cond (Po c d) (cond (FZ e (Me d c IK)) (k (.c0 (e++(Me d c IK)) d g (NM c) f)) none) none) (k (.c1 e f.fPath (Mc f.fPath) 0)))
 |.c1 e d f c=>mk (cond (MZ c f) (cond (Po c d) (cond (FZ e (Me d c IK)) (k (.c1 (e++(Me d c IK)) d f (NM c))) none) none) (EZ (e,true)))
def Q7:kN EAX (ByteArray×Bool)
 |0,_=>none
 |m+1,s=>BAM DAX Xi (Q7 m) s
def CAi:HAH:=FAy DAX Xi (Q7 gas)
def VBT:fK:=fy u1 CAi cv88 cv23 [TBT,Sz] Tryz.func174 UBT BAM FAy Q7
def GAy (d:HAH):IAH:=fun a=>mk ((d a.fTop).bind fun b=>(d a.fLow).bind fun c=>cond (!b.2) (EZ (IK,false)) (cond (!c.2) (EZ (IK,false)) (cond ((TT a.fRoot) != 4) (EZ (IK,false)) (Bc (FZ b.1 a.fRoot) (Bc (FZ (b.1++a.fRoot) c.1) (EZ ((b.1++a.fRoot)++c.1,true)))))))
def EAi:IAH:=GAy CAi
def WBT:fK:=fy0 u1 EAi cv89 cv23 [VBT] Tryz.func117 GAy
def HAy (e:Bo) (g:YAC) (h:GAH) (j:IAH):Yu:=fun f i a=>mk ((e f a.fId).bind fun b=>cond (b≥16) (VZ (g 1)) ((h (Lc a) b i.fText).bind fun d=>(j d.1).bind fun c=>cond (b != a.fNext) (some ([],0,c.1)) (some ([⟨3,IK,0,⟨a.fId,a.fKind,Qe a,Bd a,Ld a,Ad a,Lc a,ite (16<(FN (a.fNext+3))) 16 (FN (a.fNext+3))⟩⟩],0,c.1))))
def FAi:Yu:=HAy MAh GAB AAi EAi
def XBT:fK:=fy0 u3 FAi cv90 cv64 [WBS,GAW,QBT,WBT] Tryz.func60 HAy
def IAy (g:C9) (h:Ql) (i:D9):Rl:=fun d e f=>mk ((g d e (TT f)).bind fun b=>cond (!b.2) (EZ (IK,false)) ((h f b.1).bind fun a=>(i d e a).bind fun c=>Bc (FZ a c) (EZ (a++c,true))))
def HAi:Rl:=IAy MAV PAV NAV
def YBT:fK:=fy0 u3 HAi cv36 cv23 [BA8,DA8,CA8] Tryz.func122 IAy
def JAy (d:NZ) (e:Rl):Og:=fun f b=>mk (cond ((TT b) > 400) (EZ (IK,false)) ((d b).bind fun c=>(e f 0 c).bind fun a=>EZ (a.1,a.2)))
def IAi:Og:=JAy KAW HAi
def ZBT:fK:=fy0 u2 IAi cv34 cv23 [YA8,YBT] Tryz.func62 JAy
inductive FAX where
 |c0 (a:ByteArray) (b:Int) (d e:(List Int))
def ABU:FAX→lQ
 |.c0 a b d e=>(tdo Tryz.f324 232,[vs 0 a,vp 2 128,vp 3 192,vi 5 b],[(128,.ar 234 d),(192,.ar 234 e)])
def KAy (k:kS FAX (List Int)):Ag:=fun a=>mk (k (.c0 a 0 HAA HAA))
def LAy (k:kS FAX (List Int)):kS FAX (List Int)
 |.c0 c b d a=>mk (cond (b<200) (cond (Xd a) (cond (Yb (Xm b) a) (cond (RZ b (TT c)) (cond (Ej (FN (8*(b.tmod 8)))) (cond (Xd a) (cond (Yb (Xm b) a) (k (.c0 c (NM b) d (a.set (Fb (Xm b)) (Na (EAA Ce (Uc a (Xm b)) (Na ((Na (bt c b))*(Vl (Fb (8*(b.tmod 8))) Ce)))))))) none) none) none) none) none) none) (Ug (Xd a) (Ug ((Bv a d) && (Xd a)) (Ug ((Xd a) && true) (Oc a)))))
def CAM:kN FAX (List Int)
 |0,_=>none
 |m+1,s=>LAy (CAM m) s
def JAi:Ag:=KAy (CAM gas)
def BBU:fK:=fy u1 JAi cv7 cv149 [] Tryz.func324 ABU LAy KAy CAM
def MAy:Qd:=fun b a=>mk (cond (Ej (Na (64 - (DAc a)))) (some (Na (EAA Ce (Na (b*(Vl (GZ (DAc a)) Ce))) (Eo b (Vl (GZ (Na (64 - (DAc a)))) Ce))))) none)
def NAB:Qd:=MAy
def FA9:fK:=fy0 u2 NAB cv92 cv93 [] Tryz.func344 MAy
inductive GAX where
 |c0 (e:(List Int)) (f:Int) (a b d:(List Int))
 |c1 (g:Int) (a b d:(List Int))
def CBU:GAX→lQ
 |.c0 e f a b d=>(tdo Tryz.f336 232,[vp 1 64,vp 2 128,vp 3 192,(8,[.arr 234 e]),vi 9 f],[(64,.ar 234 a),(128,.ar 234 b),(192,.ar 234 d)])
 |.c1 g a b d=>(tdo Tryz.f336 488,[vp 1 64,vp 2 128,vp 3 192,vi 21 g],[(64,.ar 234 a),(128,.ar 234 b),(192,.ar 234 d)])
def NAy (b:Qd) (k:kS GAX (List Int)):Ed:=fun a=>mk (cond (Xd a) (k (.c0 a 0 a HAA [0,0,0,0,0])) none)
def HAX (a:Qd) (k:kS GAX (List Int)):kS GAX (List Int)
 |.c0 d b e f c=>mk (cond (b<25) (cond (Xd d) (cond (Qa b d) (cond (Nat.beq 5 c.length) (cond (RZ (Eh b) (IZ c)) (cond (Nat.beq 5 c.length) (cond (RZ (Eh b) (IZ c)) (k (.c0 d (NM b) e f (c.set (GZ (Eh b)) (Na (Dh Ce (JZ c (Eh b)) (JZ d b)))))) none) none) none) none) none) none) (k (.c1 0 e f c)))
 |.c1 c b f d=>mk (cond (c<25) (cond (Xd b) (cond (Qa c b) (cond (Nat.beq 5 d.length) (cond (RZ (Eh (FN ((Eh c)+4))) (IZ d)) (cond (Nat.beq 5 d.length) (cond (RZ (Eh (NM (Eh c))) (IZ d)) ((a (JZ d (Eh (NM (Eh c)))) 1).bind fun e=>cond (Xd b) (cond (Qa c b) (k (.c1 (NM c) (b.set (GZ c) (Na (Dh Ce (JZ b c) (Na (Dh Ce (JZ d (Eh (FN ((Eh c)+4)))) e))))) f d)) none) none) none) none) none) none) none) none) (Ug (Xd b) (Ug ((Bv b f) && (Xd b)) (Ug ((Xd b) && true) (Oc b)))))
def U7:kN GAX (List Int)
 |0,_=>none
 |m+1,s=>HAX NAB (U7 m) s
def IAX:Ed:=NAy NAB (U7 gas)
def DBU:fK:=fy u1 IAX cv149 cv149 [FA9] Tryz.func336 CBU HAX NAy U7
inductive JAX where
 |c0 (a b d:Int) (e f g:(List Int))
def EBU:JAX→lQ
 |.c0 a b d e f g=>(tdo Tryz.f337 1000,[vp 1 64,vp 2 128,vp 3 192,vi 4 a,vi 5 b,vi 13 d],[(64,.ar 234 e),(128,.ar 234 f),(192,.ar 234 g)])
def OAy (b:Qd) (k:kS JAX (List Int)):Ed:=fun a=>mk (cond (Xd a) (cond (Xw a) (k (.c0 1 0 0 a HAA [JZ a Ea,0,0,0,0,0,0,0,0,0,0,0,0,0,0,0,0,0,0,0,0,0,0,0,0])) none) none)
def PAy (a:Qd) (k:kS JAX (List Int)):kS JAX (List Int)
 |.c0 d b e f h c=>mk (cond (e<24) (cond (Xd f) (cond (Yb (Gj d b) f) ((a (Uc f (Gj d b)) ((Fg (FN ((NM e)*(FN (e+2))))).tmod 64)).bind fun g=>cond (Xd c) (cond (Yb (Gj b (NAD d b)) c) (k (.c0 b (NAD d b) (NM e) f h (c.set (Fb (Gj b (NAD d b))) g))) none) none) none) none) (Ug (Xd c) (Ug ((Bv c h) && (Xd c)) (Ug ((Xd c) && true) (Oc c)))))
def DAM:kN JAX (List Int)
 |0,_=>none
 |m+1,s=>PAy NAB (DAM m) s
def KAX:Ed:=OAy NAB (DAM gas)
def FBU:fK:=fy u1 KAX cv149 cv149 [FA9] Tryz.func337 EBU PAy OAy DAM
inductive LAX where
 |c0 (a:Int) (b d e:(List Int))
 |c1 (f a g:Int) (b d e:(List Int))
def GBU:LAX→lQ
 |.c0 a b d e=>(tdo Tryz.f338 232,[vp 1 64,vp 2 128,vp 3 192,vi 6 a],[(64,.ar 234 b),(128,.ar 234 d),(192,.ar 234 e)])
 |.c1 f a g b d e=>(tdo Tryz.f338 59800,[vp 1 64,vp 2 128,vp 3 192,vi 4 f,vi 6 a,vi 9 g],[(64,.ar 234 b),(128,.ar 234 d),(192,.ar 234 e)])
def QAy (k:kS LAX (List Int)):Ed:=fun a=>mk (k (.c0 0 a HAA HAA))
def KAi (k:kS LAX (List Int)):kS LAX (List Int)
 |.c0 b d c a=>mk (cond (b<5) (k (.c1 b b 0 d c a)) (Ug (Xd a) (Ug ((Bv a c) && (Xd a)) (Ug ((Xd a) && true) (Oc a)))))
 |.c1 c e b a f d=>mk (cond (b<5) (cond (Xd a) (cond (Yb (Gj b c) a) (cond (Xd a) (cond (Yb ((Eh (NM b))+(FN (5*c))) a) (cond (Xd a) (cond (Yb ((Eh (FN (b+2)))+(FN (5*c))) a) (cond (Xd d) (cond (Yb (Gj b c) d) (k (.c1 c e (NM b) a f (d.set (Fb (Gj b c)) (Na (Dh Ce (Uc a (Gj b c)) (Na (Ap Ce (Na ((BitVec.toNat ((BitVec.ofInt Ce (ite ((IntKind.signed IntKind.u64) = true) (-Ti) (IntKind.max IntKind.u64))) ^^^ (BitVec.ofInt Ce (Uc a ((Eh (NM b))+(FN (5*c)))))):Nat):Int)) (Uc a ((Eh (FN (b+2)))+(FN (5*c))))))))))) none) none) none) none) none) none) none) none) (k (.c0 (NM e) a f d)))
def OAB:kN LAX (List Int)
 |0,_=>none
 |m+1,s=>KAi (OAB m) s
def MAX:Ed:=QAy (OAB gas)
def HBU:fK:=fy u1 MAX cv149 cv149 [] Tryz.func338 GBU KAi QAy OAB
inductive NAX where
 |c0 (a b d:Int)
def IBU:NAX→lQ
 |.c0 a b d=>(tdo Tryz.f345 232,[vi 3 a,vi 4 b,vi 5 d],[])
def GA9 (k:kS NAX Int):Ac:=fun a=>k (.c0 1 a 0)
def HA9 (k:kS NAX Int):kS NAX Int
 |.c0 a c b=>mk (cond (MZ b c) (cond ((FN (a*(Ws Ti)))≥256) (k (.c0 (FN (YAb Bg (EAc (a*(Ws Ti))))) c (NM b))) (k (.c0 (FN (a*(Ws Ti))) c (NM b)))) (some (Na (FN (Ry Bg a)))))
def RAy:kN NAX Int
 |0,_=>none
 |m+1,s=>HA9 (RAy m) s
def SAy:Ac:=GA9 (RAy gas)
def JBU:fK:=fy u1 SAy cv20 cv93 [] Tryz.func345 IBU HA9 GA9 RAy
inductive OAX where
 |c0 (a b d:Int)
def KBU:OAX→lQ
 |.c0 a b d=>(tdo Tryz.f339 232,[vi 0 a,(3,[.one (.int .u64 b)]),vi 5 d],[])
def IA9 (b:Ac) (k:kS OAX Int):Ac:=fun a=>k (.c0 a 0 0)
def JA9 (a:Ac) (k:kS OAX Int):kS OAX Int
 |.c0 d e b=>mk (cond (b<7) ((a (Va b (FN (7*d)))).bind fun c=>cond (Ej b) (cond (Ej (Na ((Na (1*(Vl (GZ b) Ce))) - 1))) (k (.c0 d (Na (EAA Ce e (Na (c*(Vl (GZ (Na ((Na (1*(Vl (GZ b) Ce))) - 1))) Ce))))) (NM b))) none) none) (some e))
def TAy:kN OAX Int
 |0,_=>none
 |m+1,s=>JA9 SAy (TAy m) s
def LAi:Ac:=IA9 SAy (TAy gas)
def LBU:fK:=fy u1 LAi cv20 cv93 [JBU] Tryz.func339 KBU JA9 IA9 TAy
inductive PAX where
 |c0 (a:Int) (b d:(List Int))
def MBU:PAX→lQ
 |.c0 a b d=>(tdo Tryz.f323 104,[vp 1 64,vp 2 128,vi 4 a],[(64,.ar 234 b),(128,.ar 234 d)])
def UAy (b c d:Ed) (e:Ac) (k:kS PAX (List Int)):Ed:=fun a=>mk (k (.c0 0 a HAA))
def VAy (a b c:Ed) (d:Ac) (k:kS PAX (List Int)):kS PAX (List Int)
 |.c0 g f l=>mk (cond (g<24) (cond (Xd f) ((a f).bind fun h=>(b h).bind fun i=>(c i).bind fun e=>cond ((Bv e f) && (Xd e)) (cond (Xd e) (cond (Xw e) ((d g).bind fun j=>cond (Xd e) (cond (Xw e) (k (.c0 (NM g) (e.set (GZ Ea) (Na (Dh Ce (JZ e Ea) j))) l)) none) none) none) none) none) none) (Ug (Xd f) (Ug ((Bv f l) && (Xd f)) (Ug ((Xd f) && true) (Oc f)))))
def QAX:kN PAX (List Int)
 |0,_=>none
 |m+1,s=>VAy IAX KAX MAX LAi (QAX m) s
def MAi:Ed:=UAy IAX KAX MAX LAi (QAX gas)
def NBU:fK:=fy u1 MAi cv149 cv149 [DBU,FBU,HBU,LBU] Tryz.func323 MBU VAy UAy QAX
inductive RAX where
 |c0 (a b:Int) (d e:(List Int))
def OBU:RAX→lQ
 |.c0 a b d e=>(tdo Tryz.f325 232,[vp 1 64,vo 3 240,vi 7 a,vi 8 b],[(64,.ar 234 d),(240,.sl 5 e)])
def WAy (k:kS RAX ByteArray):Bh:=fun a=>mk (k (.c0 (IZ (Vs (200:Int))) 0 a (Vs (200:Int))))
def XAy (k:kS RAX ByteArray):kS RAX ByteArray
 |.c0 d a b c=>mk (cond (MZ a d) (cond (Xd b) (cond (Yb (Xm a) b) (cond (Ej (FN (8*(a.tmod 8)))) (cond (Qa a c) (k (.c0 d (NM a) b (c.set (GZ a) (w8 (Eo (Uc b (Xm a)) (Vl (Fb (8*(a.tmod 8))) Ce)))))) none) none) none) none) (Bl c))
def EAM:kN RAX ByteArray
 |0,_=>none
 |m+1,s=>XAy (EAM m) s
def NAi:Bh:=WAy (EAM gas)
def PBU:fK:=fy u1 NAi cv149 cv7 [] Tryz.func325 OBU XAy WAy EAM
def YAy (d:Ag) (e:Ed) (f:Bh):NZ:=fun a=>mk (cond ((TT a) != 200) (some a) ((d a).bind fun b=>(e b).bind fun c=>Pg (f c)))
def XAE:NZ:=YAy JAi MAi NAi
def KA9:fK:=fy0 u1 XAE cv7 cv7 [BBU,NBU,PBU] Tryz.func292 YAy
inductive SAX where
 |c0 (a:Int) (b:(List Int))
 |c1 (a d:Int) (b e:(List Int))
 |c2 (a d:Int) (f g:Int) (b e:(List Int))
def QBU:SAX→lQ
 |.c0 a b=>(tdo Tryz.f291 224,[vi 1 a,vo 7 496],[(496,.sl 5 b)])
 |.c1 a d b e=>(tdo Tryz.f291 4048,[vi 1 a,vo 7 496,vo 8 560,vi 9 d],[(496,.sl 5 b),(560,.sl 5 e)])
 |.c2 a d f g b e=>(tdo Tryz.f291 259208,[vi 1 a,vo 7 496,vo 8 560,vi 9 d,vi 40 f,vi 41 g],[(496,.sl 5 b),(560,.sl 5 e)])
def ZAy (d:NZ) (k:kS SAX ByteArray):JAH:=fun a b c=>mk (cond (Qq a) (cond (Qm (Wj a)) (k (.c0 b ((Wj a)++[c]))) none) none)
def PAB (a:NZ) (k:kS SAX ByteArray):kS SAX ByteArray
 |.c0 c b=>mk (cond (!(Ib c)) (cond (((IZ b).tmod c) != 0) (cond (Qm b) (k (.c0 c (b++[Ea]))) none) (cond (Yb ((IZ b) - 1) b) (cond (Yb ((IZ b) - 1) b) (k (.c1 c 0 (NAn b) (Vs (200:Int)))) none) none)) none)
 |.c1 d b c e=>mk (cond (MZ b (IZ c)) (k (.c2 d b d 0 c e)) (Bl e))
 |.c2 f d h b e c=>mk (cond (MZ b h) (cond (Qa b c) (cond (Yb (d+b) e) (cond (Qa b c) (k (.c2 f d h (NM b) e (c.set (GZ b) (w8 (Dh Dp (JZ c b) (Uc e (d+b))))))) none) none) none) ((a (ofBytes c)).bind fun g=>cond (Qq g) (k (.c1 f (Va d f) e (Wj g))) none))
def Wp:kN SAX ByteArray
 |0,_=>none
 |m+1,s=>PAB XAE (Wp m) s
def TAX:JAH:=ZAy XAE (Wp gas)
def RBU:fK:=fy u3 TAX cv96 cv7 [KA9] Tryz.func291 QBU PAB ZAy Wp
def AAz (b:JAH):Oy:=fun c=>(b c 168 31).bind fun a=>some ⟨a,0⟩
def FAM:Oy:=AAz TAX
def LA9:fK:=fy0 u1 FAM cv7 cv97 [RBU] Tryz.func239 AAz
inductive UAX where
 |c0 (a:Int) (b:ByteArray) (d e:SStream)
def SBU:UAX→lQ
 |.c0 d e a b=>(tdo Tryz.f240 480,[vi 1 d,vp 2 128,vp 4 256,vs 6 e],[(128,.var [.str a.fState,li a.fAt]),(256,.var [.str b.fState,li b.fAt])])
def BAz (c:Ja) (f:NZ) (k:kS UAX (SStream×ByteArray)):Py:=fun a d=>mk ((c d 0 4000).bind fun b=>cond (!b) (some (a,IK)) (cond ((TT a.fState) != 200) (some (a,IK)) ((c a.fAt 0 168).bind fun e=>cond (!e) (some (a,IK)) (k (.c0 d IK a ⟨IK,0⟩)))))
def CAz (a:Ja) (b:NZ) (k:kS UAX (SStream×ByteArray)):kS UAX (SStream×ByteArray)
 |.c0 e c d g=>mk (cond (MZ (TT c) e) (cond (d.fAt == 168) ((b d.fState).bind fun f=>cond (((decide (Ea≤Ea)) && (Ej (FN (0+(ite (Wl<(Dl e c)) Wl (Dl e c)))))) && (Ud (FN (0+(ite (Wl<(Dl e c)) Wl (Dl e c)))) (TT f))) (cond (FZ c (Ii f Ea (0+(ite (Wl<(Dl e c)) Wl (Dl e c))))) (k (.c0 e (c++(Ii f Ea (0+(ite (Wl<(Dl e c)) Wl (Dl e c))))) ⟨f,FN (0+(ite (Wl<(Dl e c)) Wl (Dl e c)))⟩ g)) none) none) (cond (Tj d.fAt (FN (d.fAt+(ite ((Ip d)<(Dl e c)) (Ip d) (Dl e c)))) (TT d.fState)) (cond (FZ c (Ii d.fState d.fAt (d.fAt+(ite ((Ip d)<(Dl e c)) (Ip d) (Dl e c))))) (k (.c0 e (c++(Ii d.fState d.fAt (d.fAt+(ite ((Ip d)<(Dl e c)) (Ip d) (Dl e c))))) ⟨d.fState,FN (d.fAt+(ite ((Ip d)<(Dl e c)) (Ip d) (Dl e c)))⟩ g)) none) none)) (some (d,c)))
def GAM:kN UAX (SStream×ByteArray)
 |0,_=>none
 |m+1,s=>CAz Fe XAE (GAM m) s
def YAE:Py:=BAz Fe XAE (GAM gas)
def MA9:fK:=fy u2 YAE cv98 cv99 [Xj,KA9] Tryz.func240 SBU CAz BAz GAM
def DAz (e:Ja) (f:Oy) (h:Py):S9:=fun g b=>mk ((e b 0 4000).bind fun a=>cond (!a) (EZ (IK,false)) ((f g).bind fun c=>(h c b).bind fun d=>EZ (d.2,true)))
def HAM:S9:=DAz Fe FAM YAE
def TBU:fK:=fy0 u2 HAM cv13 cv23 [Xj,LA9,MA9] Tryz.func238 DAz
def EAz:Ac:=fun a=>mk (some (CAA ((a.tmod 3329)+3329)))
def Kt:Ac:=EAz
def VAX:fK:=fy0 u1 Kt cv20 cv20 [] Tryz.func237 EAz
inductive WAX where
 |c0 (a:ByteArray) (b d:Int) (e:(List Int))
def UBU:WAX→lQ
 |.c0 a b d e=>(tdo Tryz.f176 488,[vs 5 a,vo 7 496,vi 20 b,vi 21 d],[(496,.sl 3 e)])
def FAz (d:LZ) (f:S9) (g:Ac) (k:kS WAX (List Int)):Jw:=fun b e=>mk ((d e).bind fun a=>cond (FZ b a) ((f (b++a) 128).bind fun c=>k (.c0 c.1 (IZ U5) 0 U5)) none)
def GAz (a:LZ) (b:S9) (c:Ac) (k:kS WAX (List Int)):kS WAX (List Int)
 |.c0 e g d f=>mk (cond (MZ d g) (cond (RZ (Fg d) (TT e)) (cond (Ej (FN (4*(d.tmod 2)))) ((c (Ze (Ze (Pm (Ry Bg (AAP e d)) (Ry Bg (Eo (AAP e d) (Ws Ti)))) (FN (Ry Bg (Eo (AAP e d) (Ws (2:Int)))))) (FN (Ry Bg (Eo (AAP e d) (Ws (3:Int))))))).bind fun h=>cond (Qa d f) (k (.c0 e g (NM d) (f.set (GZ d) h))) none) none) none) (Oc f))
def IAM:kN WAX (List Int)
 |0,_=>none
 |m+1,s=>GAz Xi HAM Kt (IAM m) s
def XAX:Jw:=FAz Xi HAM Kt (IAM gas)
def VBU:fK:=fy u2 XAX cv13 cv84 [Sz,TBU,VAX] Tryz.func176 UBU GAz FAz IAM
inductive YAX where
 |c0 (a:ByteArray) (b d:Int) (e:(List (List Int)))
def WBU:YAX→lQ
 |.c0 a b d e=>(tdo Tryz.f124 232,[vs 0 a,vi 1 b,vo 5 368,vi 7 d],[(368,.sl 80 e)])
def HAz (c:Jw) (k:kS YAX (List (List Int))):UAb:=fun a b=>k (.c0 a b 0 [])
def OAi (a:Jw) (k:kS YAX (List (List Int))):kS YAX (List (List Int))
 |.c0 e f b c=>mk (cond (Vw b) ((a e (Va f b)).bind fun d=>cond (Q5 c) (k (.c0 e f (NM b) (c++[d]))) none) (some c))
def ZAX:kN YAX (List (List Int))
 |0,_=>none
 |m+1,s=>OAi XAX (ZAX m) s
def ZAE:UAb:=HAz XAX (ZAX gas)
def XBU:fK:=fy u2 ZAE cv13 cv100 [VBU] Tryz.func124 WBU OAi HAz ZAX
inductive AAY where
 |c0 (a b:(List Int)) (d e:Int)
def YBU:AAY→lQ
 |.c0 a b d e=>(tdo Tryz.f177 104,[vr 0 3 a,vr 5 3 b,vi 6 d,vi 7 e],[])
def IAz (b:Ja) (k:kS AAY Bool):Sl:=fun a=>mk (k (.c0 a a (IZ a) 0))
def PAi (a:Ja) (k:kS AAY Bool):kS AAY Bool
 |.c0 f c d b=>mk (cond (MZ b d) (cond (Qa b c) ((a (JZ c b) 0 3328).bind fun e=>cond (!e) (some false) (k (.c0 f c d (NM b)))) none) (some ((IZ f) == 256)))
def JAM:kN AAY Bool
 |0,_=>none
 |m+1,s=>PAi Fe (JAM m) s
def Uz:Sl:=IAz Fe (JAM gas)
def QAi:fK:=fy u1 Uz cv101 cv1 [Xj] Tryz.func177 YBU PAi IAz JAM
def JAz:Ed:=fun a=>mk (Ug (Nb (a.length*8)) (Oc a))
def BAY:Ed:=JAz
def ZBU:fK:=fy0 u1 BAY cv101 cv84 [] Tryz.func234 JAz
inductive CAY where
 |c0 (a b d:Int)
def ABV:CAY→lQ
 |.c0 a b d=>(tdo Tryz.f236 232,[vi 0 a,vi 3 b,vi 5 d],[])
def KAz (k:kS CAY Int):Ac:=fun a=>k (.c0 a 0 0)
def LAz (k:kS CAY Int):kS CAY Int
 |.c0 b c a=>mk (cond (a<7) (cond (Ej a) (k (.c0 b (Pm (2*c) (Ry Bg (Eo b (Ws a)))) (NM a))) none) (some c))
def EAY:kN CAY Int
 |0,_=>none
 |m+1,s=>LAz (EAY m) s
def AAF:Ac:=KAz (EAY gas)
def NA9:fK:=fy u1 AAF cv20 cv20 [] Tryz.func236 ABV LAz KAz EAY
inductive FAY where
 |c0 (a b d:Int)
def BBV:FAY→lQ
 |.c0 a b d=>(tdo Tryz.f235 992,[vi 0 a,vi 1 b,vi 5 d],[])
def MAz (d:Ja) (e:Ac) (k:kS FAY Int):Qd:=fun f b=>(d b 0 1000000000).bind fun a=>cond (!a) (some 0) ((e f).bind fun c=>k (.c0 c b 1))
def NAz (a:Ja) (b:Ac) (k:kS FAY Int):kS FAY Int
 |.c0 c d e=>mk (cond (Yl d) (cond (Io d) (k (.c0 (CAA (c*c)) (Fg d) (DAD e c))) (k (.c0 (CAA (c*c)) (Fg d) e))) (some e))
def GAY:kN FAY Int
 |0,_=>none
 |m+1,s=>NAz Fe Kt (GAY m) s
def BAF:Qd:=MAz Fe Kt (GAY gas)
def OA9:fK:=fy u2 BAF cv102 cv20 [Xj,VAX] Tryz.func235 BBV NAz MAz GAY
inductive HAY where
 |c0 (a b:Int) (d:(List Int))
 |c1 (a b e:Int) (d:(List Int))
 |c2 (a b:Int) (e f g:Int) (d:(List Int))
def CBV:HAY→lQ
 |.c0 a b d=>(tdo Tryz.f175 2000,[vo 3 240,vi 4 a,vi 5 b],[(240,.sl 3 d)])
 |.c1 a b e d=>(tdo Tryz.f175 128144,[vo 3 240,vi 4 a,vi 5 b,vi 6 e],[(240,.sl 3 d)])
 |.c2 a b e f g d=>(tdo Tryz.f175 32805488,[vo 3 240,vi 4 a,vi 5 b,vi 6 e,vi 7 f,vi 8 g],[(240,.sl 3 d)])
def OAz (d:Sl) (e:Ed) (f:Ac) (g:Qd) (h:Ac) (k:kS HAY (List Int)):Ed:=fun b=>mk ((d b).bind fun a=>cond (!a) (Oc []) ((e b).bind fun c=>k (.c0 1 128 c)))
def CAF (a:Sl) (b:Ed) (c:Ac) (d:Qd) (e:Ac) (k:kS HAY (List Int)):kS HAY (List Int)
 |.c0 h f g=>mk (cond (f≥2) (k (.c1 h f 0 g)) (Oc g))
 |.c1 g j f l=>mk (cond (Ht f) ((c g).bind fun h=>(d 17 h).bind fun i=>k (.c2 (NM g) j f i f l)) (k (.c0 g (Fg j) l)))
 |.c2 n h i l f g=>mk (cond (MZ f (Va i h)) (cond (Yb (f+h) g) (cond (Qa f g) ((e (Va (JZ g f) (FN (l*(Uc g (f+h)))))).bind fun j=>cond (Qa f g) ((e (Ze (JZ g f) (FN (l*(Uc g (f+h)))))).bind fun m=>cond (Qa f g) (cond (Yb (f+h) (g.set (GZ f) j)) (k (.c2 n h i l (NM f) ((g.set (GZ f) j).set (Fb (f+h)) m))) none) none) none) none) none) (k (.c1 n h (Va i (FN (2*h))) g)))
def Qr:kN HAY (List Int)
 |0,_=>none
 |m+1,s=>CAF Uz BAY AAF BAF Kt (Qr m) s
def DAF:Ed:=OAz Uz BAY AAF BAF Kt (Qr gas)
def PA9:fK:=fy u1 DAF cv101 cv84 [QAi,ZBU,NA9,OA9,VAX] Tryz.func175 CBV CAF OAz Qr
inductive IAY where
 |c0 (a:(List (List Int))) (b d:Int) (e:(List (List Int)))
def DBV:IAY→lQ
 |.c0 a b d e=>(tdo Tryz.f123 232,[vo 3 240,vr 6 80 a,vi 7 b,vi 8 d],[(240,.sl 80 e)])
def PAz (b:Ed) (k:kS IAY (List (List Int))):VAb:=fun a=>k (.c0 a (a.length:Int) 0 [])
def QAz (a:Ed) (k:kS IAY (List (List Int))):kS IAY (List (List Int))
 |.c0 c e b d=>mk (cond (MZ b e) (cond (Ba b c.length) ((a (c.getD (GZ b) [])).bind fun f=>cond (Q5 d) (k (.c0 c e (NM b) (d++[f]))) none) none) (some d))
def RAi:kN IAY (List (List Int))
 |0,_=>none
 |m+1,s=>QAz DAF (RAi m) s
def EAF:VAb:=PAz DAF (RAi gas)
def EBV:fK:=fy u1 EAF cv150 cv100 [PA9] Tryz.func123 DBV QAz PAz RAi
inductive JAY where
 |c0 (a b:Int) (d:SStream) (e:(List Int))
 |c1 (a b:Int) (f g:Int) (d:SStream) (e h:(List Int))
def FBV:JAY→lQ
 |.c0 b d a e=>(tdo Tryz.f182 2000,[vp 7 448,vo 8 560,vi 9 b,vi 10 d],[(448,.var [.str a.fState,li a.fAt]),(560,.sl 3 e)])
 |.c1 b d f g a e h=>(tdo Tryz.f182 512632,[vp 7 448,vo 8 560,vi 9 b,vi 10 d,vo 60 3888,vi 61 f,vi 62 g],[(448,.var [.str a.fState,li a.fAt]),(560,.sl 3 e),(3888,.sl 3 h)])
def RAz (d:LZ) (h:Oy) (i:Py) (k:kS JAY (List Int)):Q9:=fun b f g=>mk ((d f).bind fun a=>cond (FZ b a) ((d g).bind fun c=>cond (Bf b a c) ((h ((b++a)++c)).bind fun e=>k (.c0 0 0 e U5)) none) none)
def KAM (a:LZ) (b:Oy) (c:Py) (k:kS JAY (List Int)):kS JAY (List Int)
 |.c0 g f h e=>mk (cond (f<4000) (cond (Ht g) ((c h 3).bind fun d=>cond (F5 Ea (TT d.2)) (cond (JAP (TT d.2)) (cond (EAP (TT d.2)) (k (.c1 g f ((2:Nat):Int) 0 d.1 e [Pm (bt d.2 0) (((FN (bt d.2 1)).tmod 16)*256),Pm ((FN (bt d.2 1)).tdiv 16) (16*(FN (bt d.2 2)))])) none) none) none) (Oc e)) (Oc e))
 |.c1 e i h d j g f=>mk (cond (MZ d h) (cond (Qa d f) (cond (JAA (JZ f d)) (cond (Ht e) (cond (Qa e g) (k (.c1 (NM e) i h (NM d) j (g.set (GZ e) (JZ f d)) f)) none) (k (.c1 e i h (NM d) j g f))) (k (.c1 e i h (NM d) j g f))) none) (k (.c0 e (NM i) j g)))
def Pv:kN JAY (List Int)
 |0,_=>none
 |m+1,s=>KAM Xi FAM YAE (Pv m) s
def FAF:Q9:=RAz Xi FAM YAE (Pv gas)
def GBV:fK:=fy u3 FAF cv35 cv84 [Sz,LA9,MA9] Tryz.func182 FBV KAM RAz Pv
inductive KAY where
 |c0 (a:ByteArray) (b:Int) (d:Bool) (e:Int) (f:(List (List Int)))
def HBV:KAY→lQ
 |.c0 a b d e f=>(tdo Tryz.f128 232,[vs 0 a,vi 1 b,vb 2 d,vo 7 496,vi 9 e],[(496,.sl 80 f)])
def SAz (d:Q9) (k:kS KAY (List (List Int))):WAb:=fun a b c=>k (.c0 a b c 0 [])
def TAz (a:Q9) (k:kS KAY (List (List Int))):kS KAY (List (List Int))
 |.c0 d e f b c=>mk (cond (Vw b) (cond f ((a d e b).bind fun g=>cond (Q5 c) (k (.c0 d e f (NM b) (c++[g]))) none) ((a d b e).bind fun h=>cond (Q5 c) (k (.c0 d e f (NM b) (c++[h]))) none)) (some c))
def SAi:kN KAY (List (List Int))
 |0,_=>none
 |m+1,s=>TAz FAF (SAi m) s
def GAF:WAb:=SAz FAF (SAi gas)
def IBV:fK:=fy u3 GAF cv140 cv100 [GBV] Tryz.func128 HBV TAz SAz SAi
inductive NAY where
 |c0 (a b:(List Int)) (d:Int) (e:(List Int))
def JBV:NAY→lQ
 |.c0 a b d e=>(tdo Tryz.f181 488,[vr 0 3 a,vr 1 3 b,vo 5 368,vi 21 d],[(368,.sl 3 e)])
def UAz (b:Sl) (f:Ac) (g:Qd) (h:Ac) (k:kS NAY (List Int)):Qi:=fun c e=>mk ((b c).bind fun a=>cond (!a) (Oc []) ((b e).bind fun d=>cond (!d) (Oc []) (k (.c0 c e 0 U5))))
def VAz (a:Sl) (b:Ac) (c:Qd) (d:Ac) (k:kS NAY (List Int)):kS NAY (List Int)
 |.c0 f g e h=>mk (cond (e<128) ((b e).bind fun j=>(c 17 (Ui j)).bind fun l=>cond (Yb (2*e) f) (cond (RZ (Ui e) (IZ f)) (cond (Yb (2*e) g) (cond (RZ (Ui e) (IZ g)) ((d (Pm ((Uc f (2*e))*(Uc g (2*e))) ((DAD (JZ f (Ui e)) (JZ g (Ui e)))*l))).bind fun i=>cond (Yb (2*e) h) ((d (Pm ((Uc f (2*e))*(JZ g (Ui e))) ((JZ f (Ui e))*(Uc g (2*e))))).bind fun m=>cond (RZ (Ui e) (IZ (h.set (Fb (2*e)) i))) (k (.c0 f g (NM e) ((h.set (Fb (2*e)) i).set (GZ (Ui e)) m))) none) none) none) none) none) none) (Oc h))
def LAM:kN NAY (List Int)
 |0,_=>none
 |m+1,s=>VAz Uz AAF BAF Kt (LAM m) s
def OAY:Qi:=UAz Uz AAF BAF Kt (LAM gas)
def KBV:fK:=fy u2 OAY cv104 cv84 [QAi,NA9,OA9,VAX] Tryz.func181 JBV VAz UAz LAM
def WAz:Qd:=fun a b=>mk (some (Va a b))
def TAi:Qd:=WAz
def LBV:fK:=fy0 u2 TAi cv102 cv20 [] Tryz.func180 WAz
def QA9:Qd:=fun a b=>mk (some (Ze a b))
def XAz:Qd:=QA9
def MBV:fK:=fy0 u2 XAz cv102 cv20 [] Tryz.func295 QA9
inductive QAY where
 |c0 (a b:(List Int)) (d:Nat) (e f:Int) (g:(List Int))
def NBV:QAY→lQ
 |.c0 a b d e f g=>(tdo Tryz.f179 488,[vr 0 3 a,vr 1 3 b,(2,[.one (.fn d)]),vo 7 496,vi 19 e,vi 20 f],[(496,.sl 3 g)])
def YAz (b:Sl) (g h:Qd) (i:Ac) (k:kS QAY (List Int)):GAn:=fun c e f=>mk ((b c).bind fun a=>cond (!a) (Oc []) ((b e).bind fun d=>cond (!d) (Oc []) (k (.c0 c e f (IZ U5) 0 U5))))
def UAi (a:Sl) (b c:Qd) (d:Ac) (k:kS QAY (List Int)):kS QAY (List Int)
 |.c0 g h f j e i=>mk (cond (MZ e j) (cond (Qa e g) (cond (Qa e h) (cond (Nat.beq f 180) ((b (JZ g e) (JZ h e)).bind fun l=>(d l).bind fun m=>cond (Qa e i) (k (.c0 g h f j (NM e) (i.set (GZ e) m))) none) (cond (Nat.beq f 295) ((c (JZ g e) (JZ h e)).bind fun n=>(d n).bind fun o=>cond (Qa e i) (k (.c0 g h f j (NM e) (i.set (GZ e) o))) none) (cond (Nat.beq f 321) none (cond (Nat.beq f 322) none none)))) none) none) (Oc i))
def MAM:kN QAY (List Int)
 |0,_=>none
 |m+1,s=>UAi Uz TAi XAz Kt (MAM m) s
def VAi:GAn:=YAz Uz TAi XAz Kt (MAM gas)
def OBV:fK:=fy u3 VAi cv151 cv84 [QAi,LBV,MBV,VAX] Tryz.func179 NBV UAi YAz MAM
def ZAz (b:GAn):Qi:=fun c d=>mk ((b c d 180).bind fun a=>Oc a)
def Vz:Qi:=ZAz VAi
def RA9:fK:=fy0 u2 Vz cv104 cv84 [OBV] Tryz.func126 ZAz
inductive RAY where
 |c0 (a:(List (List Int))) (b:(List (List Int))) (d e:Int) (f:(List Int))
def PBV:RAY→lQ
 |.c0 a b d e f=>(tdo Tryz.f127 232,[vr 0 80 a,vr 1 80 b,vo 5 368,vi 9 d,vi 10 e],[(368,.sl 3 f)])
def AA0 (c d:Qi) (k:kS RAY (List Int)):Zu:=fun a b=>mk (k (.c0 a b (a.length:Int) 0 U5))
def WAi (a b:Qi) (k:kS RAY (List Int)):kS RAY (List Int)
 |.c0 d e f c i=>mk (cond (MZ c f) (cond (Ba c d.length) (cond (Ba c e.length) ((a (d.getD (GZ c) []) (e.getD (GZ c) [])).bind fun g=>(b i g).bind fun h=>k (.c0 d e f (NM c) h)) none) none) (Oc i))
def NAM:kN RAY (List Int)
 |0,_=>none
 |m+1,s=>WAi OAY Vz (NAM m) s
def QAB:Zu:=AA0 OAY Vz (NAM gas)
def SA9:fK:=fy u2 QAB cv105 cv84 [KBV,RA9] Tryz.func127 PBV WAi AA0 NAM
inductive TAY where
 |c0 (a:Int) (b:(List Int)) (d e:Int) (f:(List Int))
 |c1 (a g h:Int) (b:(List Int)) (d e:Int) (i j:Int) (f:(List Int))
def QBV:TAY→lQ
 |.c0 a b d e f=>(tdo Tryz.f178 232,[vi 1 a,vo 5 368,vr 17 3 b,vi 18 d,vi 19 e],[(368,.sl 5 f)])
 |.c1 a g h b d e i j f=>(tdo Tryz.f178 59800,[vi 1 a,vo 5 368,vi 6 g,vi 7 h,vr 17 3 b,vi 18 d,vi 19 e,vi 24 i,vi 25 j],[(368,.sl 5 f)])
def BA0 (k:kS TAY ByteArray):MAH:=fun a b=>mk (cond ((ZAb (FN (Xm (FN ((FN ((IZ a)*b))+7))))) && (Nb ((Fb (Xm (FN ((FN ((IZ a)*b))+7))))*1))) (k (.c0 b a (IZ a) 0 (List.replicate (Fb (Xm (FN ((FN ((IZ a)*b))+7)))) Ea))) none)
def XAi (k:kS TAY ByteArray):kS TAY ByteArray
 |.c0 d b c a e=>mk (cond (MZ a c) (cond (Qa a b) (k (.c1 d a (JZ b a) b c a d 0 e)) none) (Bl e))
 |.c1 b c f g h i e a d=>mk (cond (MZ a e) (cond (Yb (Xm (Va (FN (c*b)) a)) d) (cond (Ej a) (cond (Ej ((Va (FN (c*b)) a).tmod 8)) (cond (Yb (Xm (Va (FN (c*b)) a)) d) (k (.c1 b c f g h i e (NM a) (d.set (Fb (Xm (Va (FN (c*b)) a))) (w8 (EAA Dp (Uc d (Xm (Va (FN (c*b)) a))) (w8 ((w8 (FN (Ry Bg (Eo f (Ws a)))))*(Vl (GZ ((Va (FN (c*b)) a).tmod 8)) Dp)))))))) none) none) none) none) (k (.c0 b g h (NM i) d)))
def RAB:kN TAY ByteArray
 |0,_=>none
 |m+1,s=>XAi (RAB m) s
def UAY:MAH:=BA0 (RAB gas)
def TA9:fK:=fy u2 UAY cv103 cv7 [] Tryz.func178 QBV XAi BA0 RAB
def CA0 (c:Sl) (d:MAH):Bh:=fun b=>mk ((c b).bind fun a=>cond (!a) Gv (Pg (d b 12)))
def HAF:Bh:=CA0 Uz UAY
def RBV:fK:=fy0 u1 HAF cv101 cv7 [QAi,TA9] Tryz.func125 CA0
inductive VAY where
 |c0 (a b:ByteArray) (d e:ByteArray) (f:Int) (g:SPair) (h:(List (List Int))) (i:(List (List Int)))
def SBV:VAY→lQ
 |.c0 b d e f g a h i=>(tdo Tryz.f63 4072,[vp 2 128,vs 4 b,vs 5 d,vo 7 496,vo 8 560,vs 9 e,vs 10 f,vi 30 g],[(128,.var [.str a.fPublic,.str a.fSecret]),(496,.sl 80 h),(560,.sl 80 i)])
def DA0 (b:NZ) (g:UAb) (i:VAb) (m:WAb) (n:Zu) (o:Qi) (p:Bh) (k:kS VAY (SPair×Bool)):U9:=fun d=>mk (cond ((TT d) != 32) (some (⟨IK,IK⟩,false)) ((b d).bind fun a=>cond (FZ a (Qb ⟨#[114]⟩)) ((b (a++(Qb ⟨#[114]⟩))).bind fun e=>cond (FZ a (Qb ⟨#[115]⟩)) ((b (a++(Qb ⟨#[115]⟩))).bind fun c=>(g c 0).bind fun f=>(i f).bind fun h=>(g c 2).bind fun j=>(i j).bind fun l=>k (.c0 a e IK IK 0 ⟨IK,IK⟩ h l)) none) none))
def XAY (a:NZ) (b:UAb) (c:VAb) (d:WAb) (e:Zu) (f:Qi) (g:Bh) (k:kS VAY (SPair×Bool)):kS VAY (SPair×Bool)
 |.c0 r h i l j w m o=>mk (cond (Vw j) ((d h j false).bind fun t=>(e t m).bind fun u=>cond (Ba j o.length) ((f u (o.getD (GZ j) [])).bind fun v=>(g v).bind fun p=>cond (FZ i p) (cond (Ba j m.length) ((g (m.getD (GZ j) [])).bind fun q=>cond (FZ l q) (k (.c0 r h (i++p) (l++q) (NM j) w m o)) none) none) none) none) (cond (FZ i h) (cond (FZ l (i++h)) ((a (i++h)).bind fun n=>cond (Bf l (i++h) n) (cond (FZ r (Qb ⟨#[122]⟩)) ((a (r++(Qb ⟨#[122]⟩))).bind fun s=>cond (Bf (l++(i++h)) n s) (some (⟨i++h,((l++(i++h))++n)++s⟩,true)) none) none) none) none) none))
def OAM:kN VAY (SPair×Bool)
 |0,_=>none
 |m+1,s=>XAY Yj ZAE EAF GAF QAB Vz HAF (OAM m) s
def YAY:U9:=DA0 Yj ZAE EAF GAF QAB Vz HAF (OAM gas)
def UA9:fK:=fy u1 YAY cv7 cv106 [Qz,XBU,EBV,IBV,SA9,RA9,RBV] Tryz.func63 SBV XAY DA0 OAM
def EA0:KAH:=fun _=>none
def TBV:fK:=fs u1 EA0 cv7 cv107 241
def FA0:HAn:=fun _ _ _=>none
def UBV:fK:=fs u3 FA0 cv35 cv108 242
def GA0:ZAC:=fun _ _=>none
def VBV:fK:=fs u2 GA0 cv103 cv84 243
def HA0:Ed:=fun _=>none
def WBV:fK:=fs u1 HA0 cv101 cv84 245
def IA0:Qi:=fun _ _=>none
def XBV:fK:=fs u2 IA0 cv104 cv84 244
inductive ZAY where
 |c0 (a:ByteArray) (b:Int) (d:(List (List Int))) (e:(List (List Int)))
def YBV:ZAY→lQ
 |.c0 a b d e=>(tdo Tryz.f183 2024,[vs 1 a,vo 6 432,vo 8 560,vi 29 b],[(432,.sl 80 d),(560,.sl 80 e)])
def JA0 (d:KAH) (e:HAn) (f:ZAC) (g:Ed) (h:Zu) (i:Ed) (j:Qi) (k:kS ZAY (List Int×Bool)):LAH:=fun b c=>mk (cond ((TT b) != 1632) (some ([],false)) (cond ((TT c) != 768) (some ([],false)) ((d b).bind fun a=>cond (!a.2) (some ([],false)) (k (.c0 c 0 a.1 [])))))
def VA9 (a:KAH) (b:HAn) (c:ZAC) (d:Ed) (e:Zu) (f:Ed) (g:Qi) (k:kS ZAY (List Int×Bool)):kS ZAY (List Int×Bool)
 |.c0 i h o j=>mk (cond (Vw h) (cond (Tj (FN (h*320)) (FN ((NM h)*320)) (TT i)) ((b (i.extract (Fb (h*320)) (Fb ((NM h)*320))) 10 256).bind fun l=>(c l.1 10).bind fun m=>(d m).bind fun n=>cond (Q5 j) (k (.c0 i (NM h) o (j++[n]))) none) none) (cond ((Ud Ea (640:Int)) && (decide (640≤(TT i)))) ((b (Fp i (640:Int)) 4 256).bind fun p=>(c p.1 4).bind fun q=>(e o j).bind fun r=>(f r).bind fun s=>(g q s).bind fun t=>some (t,true)) none))
def KA0:kN ZAY (List Int×Bool)
 |0,_=>none
 |m+1,s=>VA9 EA0 FA0 GA0 DAF QAB HA0 IA0 (KA0 m) s
def LA0:LAH:=JA0 EA0 FA0 GA0 DAF QAB HA0 IA0 (KA0 gas)
def ZBV:fK:=fy u2 LA0 cv34 cv108 [TBV,UBV,VBV,PA9,SA9,WBV,XBV] Tryz.func183 YBV VA9 JA0 KA0
def WA9:ZAC:=fun _ _=>none
def ABW:fK:=fs u2 WA9 cv103 cv84 184
def MA0 (d:LAH) (g:ZAC) (h:MAH):Og:=fun e f=>mk ((d e f).bind fun a=>cond (!a.2) (EZ (IK,false)) ((g a.1 1).bind fun b=>(h b 1).bind fun c=>EZ (c,true)))
def NA0:Og:=MA0 LA0 WA9 UAY
def BBW:fK:=fy0 u2 NA0 cv34 cv23 [ZBV,ABW,TA9] Tryz.func129 MA0
def XA9:JAb:=fun _ _=>none
def CBW:fK:=fs u2 XA9 cv34 cv109 130
def OA0 (h:Og) (i:JAb) (f:NZ):Og:=fun a b=>mk ((h a b).bind fun d=>cond (!d.2) (EZ (IK,false)) (Bc (RAn a) ((i (a.extract (GZ (768:Int)) (GZ (1568:Int))) d.1).bind fun c=>cond c.2.2 (cond (Jc c.1 b) (EZ (c.2.1,true)) (Bc ((Ud Ea (1600:Int)) && (decide (1600≤(TT a)))) (Bc (FZ (Fp a (1600:Int)) b) ((f ((Fp a (1600:Int))++b)).bind fun e=>EZ (e,true))))) (Bc ((Ud Ea (1600:Int)) && (decide (1600≤(TT a)))) (Bc (FZ (Fp a (1600:Int)) b) ((f ((Fp a (1600:Int))++b)).bind fun g=>EZ (g,true)))))))
def PAM:Og:=OA0 NA0 XA9 Yj
def DBW:fK:=fy0 u2 PAM cv34 cv23 [BBW,CBW,Qz] Tryz.func64 OA0
def PA0 (e:Yn):NAH:=fun a c b=>mk ((e a).bind fun d=>cond (!d) (some (⟨0,0,false,false,false,false,IK,0⟩,false)) (cond (Qe a) (cond (!c) (some (⟨0,0,false,false,false,false,IK,0⟩,false)) (cond (Bd a) (cond (!b) (some (⟨0,0,false,false,false,false,IK,0⟩,false)) (some (G5 a c b,true))) (some (G5 a c b,true)))) (cond (Bd a) (cond (!b) (some (⟨0,0,false,false,false,false,IK,0⟩,false)) (some (G5 a c b,true))) (some (G5 a c b,true)))))
def YAi:NAH:=PA0 J7
def EBW:fK:=fy0 u3 YAi cv110 cv27 [RAV] Tryz.func65 PA0
def QA0 (b:NZ):NZ:=fun a=>mk (Nc (FZ a Gp) (Pg (b (a++Gp))))
def ZAi:NZ:=QA0 XAL
def FBW:fK:=fy0 u1 ZAi cv7 cv7 [EA9] Tryz.func131 QA0
def RA0 (d:Yn) (e:U9) (f:NZ):OAH:=fun a=>mk ((d a).bind fun b=>cond (!b) Gv (cond (a.fKind == 1) ((e (Lc a)).bind fun c=>some c.1.fPublic) (cond (a.fKind == 2) (Pg (f (Lc a))) Gv)))
def AAj:OAH:=RA0 J7 YAY ZAi
def GBW:fK:=fy0 u1 AAj cv21 cv7 [RAV,UA9,FBW] Tryz.func66 RA0
def SA0 (d:BAH) (r:Yu) (s:Uu) (t:Ky) (u:Og) (v:U9) (w:Og) (c:YAC) (x:NAH) (y:OAH):Yu:=fun i a b=>mk (cond (a.fOp == 6) ((d b 1).bind fun g=>cond g (some ([],0,Lc b)) (VZ (c 8))) (cond (a.fOp == 5) ((d b 3).bind fun h=>cond h (VZ (r i a b)) (VZ (c 8))) (cond (a.fOp == 10) ((d b 2).bind fun j=>cond j ((s b).bind fun l=>(t i).bind fun m=>(u m l.1).bind fun n=>some ([],0,n.1)) (VZ (c 8))) (cond (a.fOp == 12) ((d b 4).bind fun o=>cond o ((v (Lc b)).bind fun p=>(w p.1.fSecret a.fText).bind fun e=>cond (!e.2) (VZ (c 6)) (some ([],0,e.1))) (VZ (c 8))) (cond (a.fOp == 8) ((x b a.fHidden a.fFixed).bind fun f=>cond f.2 (some ([⟨3,IK,0,f.1⟩],0,IK)) (VZ (c 8))) (cond (a.fOp == 7) ((y b).bind fun q=>some ([],0,q)) (cond (a.fOp == 9) (some ([⟨4,IK,b.fId,⟨0,0,false,false,false,false,IK,0⟩⟩],0,IK)) (VZ (c 8)))))))))
def BAj:Yu:=SA0 JAh FAi JAL JAW IAi YAY PAM GAB YAi AAj
def HBW:fK:=fy0 u3 BAj cv90 cv64 [TBS,XBT,FAw,XA8,ZBT,UA9,DBW,GAW,EBW,GBW] Tryz.func23 SA0
def CAj (j:Lm) (l:Kw) (c:YAC) (m:LZ) (n:Bo) (o:Fh) (p:NZ) (q r:Fh) (s:Zn) (t:Yu):Fh:=fun b a=>mk ((j b).bind fun f=>cond (!f) (VZ (c 9)) (cond (!b.fUp) (VZ (c 9)) ((l a).bind fun g=>cond (!g) (VZ (c 9)) (cond (b.fBook.fCount≥10000) (VZ (c 9)) (cond (a.fOp == 1) (cond ((Qg b:Int)≥3) (VZ (c 1)) (cond (b.fOpened≥1000) (VZ (c 1)) ((m (NM b.fOpened)).bind fun h=>some ([],0,h)))) ((n b (Fj a)).bind fun d=>cond (Qh d) (VZ (c 2)) (cond (a.fOp == 13) (some ([],0,IK)) (cond (a.fOp == 2) (VZ (o b a)) (cond (Ba d (Qg b)) (cond (!(Yk (Vd b) d ⟨0,false⟩).fIn) (VZ (c 5)) (cond (a.fOp == 3) (cond ((TT a.fText) > 20) (VZ (c 6)) ((p a.fText).bind fun i=>some ([⟨1,i,0,⟨0,0,false,false,false,false,IK,0⟩⟩],0,IK))) (cond (a.fOp == 4) (VZ (q b a)) (cond (a.fOp == 11) (VZ (r b a)) ((s b.fBook a.fThing).bind fun e=>cond (!e.2) (VZ (c 7)) (VZ (t b a e.1))))))) none)))))))))
def V7:Fh:=CAj FAB QAL GAB IAB DAh EAh Yj GAh IAh VAE BAj
def IBW:fK:=fy0 u2 V7 cv68 cv64 [NA8,OA8,GAW,XAw,MBS,NBS,Qz,PBS,SBS,SAw,HBW] Tryz.func6 CAj
def TA0 (f:Lm) (g:Kw) (b:G9) (h:Fh):Fh:=fun a e=>mk ((f a).bind fun c=>cond (!c) (VZ (b 9 GAA)) (cond (!a.fUp) (VZ (b 9 GAA)) ((g e).bind fun d=>cond (!d) (VZ (b 9 GAA)) (cond (a.fBook.fCount≥10000) (VZ (b 9 GAA)) (VZ (h a e))))))
def AAZ:Fh:=TA0 IAU LAU CAE Ov
def JBW:fK:=fy0 u2 AAZ cv68 cv64 [OA7,QA7,WAI,IA7] Tryz.func7 TA0
inductive BAZ where
 |c0 (a b:(List SRec)) (d:Int)
def KBW:BAZ→lQ
 |.c0 a b d=>(tdo Tryz.f8 464,[vr 0 47 a,vr 1 47 b,vi 5 d],[])
def UA0 (k:kS BAZ Bool):XAb:=fun a b=>cond ((a.length:Int) != (b.length:Int)) (some false) (k (.c0 a b 0))
def DAj (k:kS BAZ Bool):kS BAZ Bool
 |.c0 b c a=>mk (cond (Gh a b.length) (cond (Ba a b.length) (cond (Ba a c.length) (cond (!(((Hf b a IK ⟨0,0,false,false,false,false,IK,0⟩).fKind == (Hf c a IK ⟨0,0,false,false,false,false,IK,0⟩).fKind) && ((Jc (Hf b a IK ⟨0,0,false,false,false,false,IK,0⟩).fText (Hf c a IK ⟨0,0,false,false,false,false,IK,0⟩).fText) && (((Hf b a IK ⟨0,0,false,false,false,false,IK,0⟩).fNum == (Hf c a IK ⟨0,0,false,false,false,false,IK,0⟩).fNum) && ((((OZ (Hf b a IK ⟨0,0,false,false,false,false,IK,0⟩)).fId == (OZ (Hf c a IK ⟨0,0,false,false,false,false,IK,0⟩)).fId) && (((OZ (Hf b a IK ⟨0,0,false,false,false,false,IK,0⟩)).fKind == (OZ (Hf c a IK ⟨0,0,false,false,false,false,IK,0⟩)).fKind) && (((Qe (OZ (Hf b a IK ⟨0,0,false,false,false,false,IK,0⟩))) == (Qe (OZ (Hf c a IK ⟨0,0,false,false,false,false,IK,0⟩)))) && (((Bd (OZ (Hf b a IK ⟨0,0,false,false,false,false,IK,0⟩))) == (Bd (OZ (Hf c a IK ⟨0,0,false,false,false,false,IK,0⟩)))) && (((Ld (OZ (Hf b a IK ⟨0,0,false,false,false,false,IK,0⟩))) == (Ld (OZ (Hf c a IK ⟨0,0,false,false,false,false,IK,0⟩)))) && (((Ad (OZ (Hf b a IK ⟨0,0,false,false,false,false,IK,0⟩))) == (Ad (OZ (Hf c a IK ⟨0,0,false,false,false,false,IK,0⟩)))) && ((Jc (Lc (OZ (Hf b a IK ⟨0,0,false,false,false,false,IK,0⟩))) (Lc (OZ (Hf c a IK ⟨0,0,false,false,false,false,IK,0⟩)))) && (((OZ (Hf b a IK ⟨0,0,false,false,false,false,IK,0⟩)).fNext == (OZ (Hf c a IK ⟨0,0,false,false,false,false,IK,0⟩)).fNext) && true)))))))) && true))))) (some false) (k (.c0 b c (NM a)))) none) none) (some true))
def QAM:kN BAZ Bool
 |0,_=>none
 |m+1,s=>DAj (QAM m) s
def CAZ:XAb:=UA0 (QAM gas)
def LBW:fK:=fy u2 CAZ cv152 cv1 [] Tryz.func8 KBW DAj UA0 QAM
inductive DAZ where
 |c0 (a b:Int) (d:ByteArray) (e:Bool) (f:ByteArray) (g h:Int) (i:ByteArray) (j l:Int) (n:(List SRec)) (o:(List SFile)) (p:(List SThing)) (q:(List SSession)) (t:(List SLive))
def MBW:DAZ→lQ
 |.c0 a b d e f g h i j l n o p q t=>(tdo Tryz.f3 8144,[vp 3 192,vo 5 368,vi 6 a,vi 11 b],[(192,.var [.str d,.bool e,.own 1012290,.str f,li g,.own 1012293,li h,.str i,li j,.own 1012297,.own 1012298,li l]),(368,.sl 47 n),(1012290,.sl 116 o),(1012293,.sl 45 p),(1012297,.sl 58 q),(1012298,.sl 126 t)])
def VA0 (h:SAG) (i:QAb) (j l:Fh) (m:XAb) (n:Lm) (o:Kw) (p:AAA) (k:kS DAZ Bool):SAG:=fun q=>mk ((h ()).bind fun d=>cond d (some true) ((i ()).bind fun a=>(j a.1 a.2).bind fun b=>(l a.1 a.2).bind fun c=>cond (b.2.1 != c.2.1) (some false) (cond (!(Jc b.2.2 c.2.2)) (some false) ((m b.1 c.1).bind fun e=>cond (!e) (some false) ((n a.1).bind fun f=>cond (!f) (some false) ((o a.2).bind fun g=>cond (!g) (some false) (k (.c0 b.2.1 0 a.1.fKey a.1.fUp a.1.fBook.fWord (Oe a.1.fBook) a.1.fBook.fLast (Ub a.1.fBook) a.1.fBook.fCount a.1.fOpened b.1 a.1.fDisk.fFiles (PZ a.1.fBook) (Vd a.1) a.1.fLives))))))))
def EAj (a:SAG) (b:QAb) (c d:Fh) (e:XAb) (f:Lm) (g:Kw) (h:AAA) (k:kS DAZ Bool):kS DAZ Bool
 |.c0 l j t m n o p q r u i v s w x=>mk (cond (Gh j i.length) (cond (l != 0) (cond (Ba j i.length) (cond ((Hf i j IK ⟨0,0,false,false,false,false,IK,0⟩).fKind != 2) (some false) (k (.c0 l (NM j) t m n o p q r u i v s w x))) none) (k (.c0 l (NM j) t m n o p q r u i v s w x))) ((h ⟨n,o,s,p,q,r⟩ i).bind fun y=>UZ y.2 (UZ ((i.length:Int)≤1) (UZ m (some true) (some (l == 9))) (some false)) (some false)))
def RAM:kN DAZ Bool
 |0,_=>none
 |m+1,s=>EAj IAc OAU V7 AAZ CAZ FAB QAL UAE (RAM m) s
def laws_FnPlans:SAG:=VA0 IAc OAU V7 AAZ CAZ FAB QAL UAE (RAM gas)
theorem ok_laws_FnPlans:Tells ctx PP 3 cv0 cv1 (u1 laws_FnPlans):=ty u1 laws_FnPlans cv0 cv1 [SBJ,HBQ,IBW,JBW,LBW,NA8,OA8,MA8] Tryz.func3 MBW EAj VA0 RAM
end
end Go.Proofs.YtpjfloaghpgpdaaGreatDoor.G
