/- Functions of the program, told by plain functions: part 2 of 2. -/
import Derived.Test.YtkbbicgglblfiaaGreatDoorFFnLeavesa
namespace Go.Proofs.YtkbbicgglblfiaaGreatDoor.G
open Go Go.Ev
noncomputable section
set_option linter.unusedVariables false
set_option maxRecDepth 100000
set_option maxHeartbeats 4000000
set_option linter.unusedSectionVars false
variable [PC]
def TA7 (a:MH) (b:XC) (k:Aw7 zi (BU×Bool)):Aw7 zi (BU×Bool)
 |.c0 e f c g d=>mk (cond (Aqt c f) (cond (AwI c d.length) (cond (Aqt c (AsC e)) (cond (Dt c e) (cond (0<=(ite ((Arr d c) > (ite ((ite ((EP d c)<(GZ e c)) (EP d c) (GZ e c)) > 0) (ite ((EP d c)<(GZ e c)) (EP d c) (GZ e c)) 0)) (Arr d c) (ite ((ite ((EP d c)<(GZ e c)) (EP d c) (GZ e c)) > 0) (ite ((EP d c)<(GZ e c)) (EP d c) (GZ e c)) 0))&&(ite ((Arr d c) > (ite ((ite ((EP d c)<(GZ e c)) (EP d c) (GZ e c)) > 0) (ite ((EP d c)<(GZ e c)) (EP d c) (GZ e c)) 0)) (Arr d c) (ite ((ite ((EP d c)<(GZ e c)) (EP d c) (GZ e c)) > 0) (ite ((EP d c)<(GZ e c)) (EP d c) (GZ e c)) 0))<=(EP d c)) (k (.c0 e f (ArO c) g ((d.set (BN c) (U4 (Aqc d c) (Aqc d c).fText (ite ((Arr d c) > (ite ((ite ((EP d c)<(GZ e c)) (EP d c) (GZ e c)) > 0) (ite ((EP d c)<(GZ e c)) (EP d c) (GZ e c)) 0)) (Arr d c) (ite ((ite ((EP d c)<(GZ e c)) (EP d c) (GZ e c)) > 0) (ite ((EP d c)<(GZ e c)) (EP d c) (GZ e c)) 0)).toNat)).set (BN c) (⟨(Aqc (d.set (BN c) (U4 (Aqc d c) (Aqc d c).fText (ite ((Arr d c) > (ite ((ite ((EP d c)<(GZ e c)) (EP d c) (GZ e c)) > 0) (ite ((EP d c)<(GZ e c)) (EP d c) (GZ e c)) 0)) (Arr d c) (ite ((ite ((EP d c)<(GZ e c)) (EP d c) (GZ e c)) > 0) (ite ((EP d c)<(GZ e c)) (EP d c) (GZ e c)) 0)).toNat)) c).fName,(Aqc (d.set (BN c) (U4 (Aqc d c) (Aqc d c).fText (ite ((Arr d c) > (ite ((ite ((EP d c)<(GZ e c)) (EP d c) (GZ e c)) > 0) (ite ((EP d c)<(GZ e c)) (EP d c) (GZ e c)) 0)) (Arr d c) (ite ((ite ((EP d c)<(GZ e c)) (EP d c) (GZ e c)) > 0) (ite ((EP d c)<(GZ e c)) (EP d c) (GZ e c)) 0)).toNat)) c).fText,ite ((Arr d c) > (ite ((ite ((EP d c)<(GZ e c)) (EP d c) (GZ e c)) > 0) (ite ((EP d c)<(GZ e c)) (EP d c) (GZ e c)) 0)) (Arr d c) (ite ((ite ((EP d c)<(GZ e c)) (EP d c) (GZ e c)) > 0) (ite ((EP d c)<(GZ e c)) (EP d c) (GZ e c)) 0)⟩:BQ)))) none) none) (cond (0<=(ite ((Arr d c) > 0) (Arr d c) 0)&&(ite ((Arr d c) > 0) (Arr d c) 0)<=(EP d c)) (k (.c0 e f (ArO c) g ((d.set (BN c) (U4 (Aqc d c) (Aqc d c).fText (ite ((Arr d c) > 0) (Arr d c) 0).toNat)).set (BN c) (⟨(Aqc (d.set (BN c) (U4 (Aqc d c) (Aqc d c).fText (ite ((Arr d c) > 0) (Arr d c) 0).toNat)) c).fName,(Aqc (d.set (BN c) (U4 (Aqc d c) (Aqc d c).fText (ite ((Arr d c) > 0) (Arr d c) 0).toNat)) c).fText,ite ((Arr d c) > 0) (Arr d c) 0⟩:BQ)))) none)) none) (Jb (⟨d⟩,true)))
def yS:AzH zi (BU×Bool)
 |0,_=>none
 |m+1,s=>TA7 Vu Uo (yS m) s
def AGH:qH:=SA7 Vu Uo (yS AY)
def EBf:Awe:=fy u2 AGH AUo jq [KAm,zk] Tryz.func174 DBf TA7 SA7 yS
def UA7 (e:AqW) (f:U5) (h:qH):dh:=fun g b a i=>mk (Ap4 (e a 0 (Qi b)) (Jb (IZ,false)) (AqA (GK a (Qi b)) ((f g ((b.take (BN a)).drop 0)).bind fun c=>cond (Aqt c.2 a) (Jb (IZ,false)) ((h c.1 i).bind fun d=>Jb (d.1,d.2)))))
def BAp:dh:=UA7 Fv nY AGH
def FBf:Awe:=BI u4 BAp AUp jq [Aqs,TA2,EBf] Tryz.func118 UA7
def VA7 (d:XC) (e:Om):NS:=fun b=>(d b.Bc).bind fun a=>e.bind fun c=>some ⟨b.BO,false,a,c,[],[],0⟩
def CAp:NS:=VA7 Uo X4
def GBf:Awe:=BI u1 CAp RD U8 [zk,YAl] Tryz.func119 VA7
def DAp (n:XD) (o:dh) (q:NS) (h:XE) (j:XF) (d:Qj):Yn:=fun a e p=>mk ((n (Aq7 a) (ArH a) e).bind fun f=>(o a.AX.Bc f.1 1 p).bind fun c=>(q a.AX).bind fun b=>cond c.2 ((h c.1 ArB).bind fun g=>(j b.BO g.1).bind fun i=>cond (Qs (Arb i.1) (ArH a)) (cond (dn a.CO) (La (d ⟨⟨b.BO,b.CZ,c.1,DX b,Es b,He b,Ar7 b⟩,a.Bq,ArN a,a.Cm,a.CO++[e]⟩ 10 IK)) none) (La (d ⟨⟨b.BO,b.CZ,c.1,DX b,Es b,He b,Ar7 b⟩,a.Bq,ArN a,a.Cm,a.CO⟩ 10 IK))) ((h b.Bc ArB).bind fun l=>(j b.BO l.1).bind fun m=>cond (Qs (Arb m.1) (ArH a)) (cond (dn a.CO) (La (d ⟨b,a.Bq,ArN a,a.Cm,a.CO++[e]⟩ 10 IK)) none) (La (d ⟨b,a.Bq,ArN a,a.Cm,a.CO⟩ 10 IK))))
def Xu:Yn:=DAp yO BAp CAp xX xw WB
def HBf:Awe:=BI u3 Xu AUt VB [XBF,FBf,GBf,EBG,IBG,TA3] Tryz.func69 DAp [0]
def WA7 (d:XC) (e:Ql):NS:=fun a=>mk ((d a.Bc).bind fun b=>(e (DX a)).bind fun c=>ArL (Avw (Fe a)) (ArL (Avw (MI a)) (some ⟨a.BO,a.CZ,b,c,Es a,He a,Ar7 a⟩)))
def nN:NS:=WA7 Uo dY
def IBf:Awe:=BI u1 nN RD U8 [zk,WA2] Tryz.func121 WA7
inductive zl where
 |c0 (a b d:Int) (e:AA) (f:Bool) (g:AA) (h i:Int) (j:AA) (l n:Int) (o:(List BQ)) (p:(List Af)) (q:(List EG)) (t:(List CS))
def JBf:zl->Avy
 |.c0 a b d e f g h i j l n o p q t=>(tdo Tryz.f122 224,[vp 0 0,vi 1 a,vi 2 b,vi 7 d],[(0,.var [.str e,.bool f,.own 1000002,.str g,li h,.own 1000005,li i,.str j,li l,.own 1000009,.own 1000010,li n]),(1000002,.sl 90 o),(1000005,.sl 76 p),(1000009,.sl 127 q),(1000010,.sl 157 t)])
def XA7 (e:JC) (k:Aw7 zl Ap):NAh:=fun a c d=>mk ((e a c).bind fun b=>cond (JD b) (ArL (AwI b (MI a)) (some ⟨a.BO,a.CZ,a.Bc,DX a,Es a,(He a).set (BN b) (⟨(Pq (He a) b).fId,d⟩:CS),Ar7 a⟩)) (k (.c0 c d 0 a.BO a.CZ (DX a).Bv (Aqa a) (Aqk a) (Aql (DX a)) (Qm a) (Ar7 a) (ArK a) (DC (DX a)) (Es a) (He a))))
def EAp (a:JC) (k:Aw7 zl Ap):Aw7 zl Ap
 |.c0 d e b f g h i j l m n o p q c=>mk (cond (Gm b c.length) (cond (AwI b c.length) (cond (Aqt (Pq c b).fId d) (k (.c0 d e (ArO b) f g h i j l m n o p q c)) (ArL (GK b (c.length:Int)) (ArL (Avw (WT c b).length) (ArL (Avw ((WT c b).length+1)) (ArL (GK b (c.length:Int)) (ArL (Avw (((WT c b)++[(⟨d,e⟩:CS)]).length+(dw c (BN b) b).length)) (some ⟨f,g,⟨o⟩,⟨h,i,p,j,l,m⟩,q,((WT c b)++[(⟨d,e⟩:CS)])++(dw c (BN b) b),n⟩))))))) none) (ArL (GK b (c.length:Int)) (ArL (Avw (WT c b).length) (ArL (Avw ((WT c b).length+1)) (ArL (GK b (c.length:Int)) (ArL (Avw (((WT c b)++[(⟨d,e⟩:CS)]).length+(dw c (BN b) b).length)) (some ⟨f,g,⟨o⟩,⟨h,i,p,j,l,m⟩,q,((WT c b)++[(⟨d,e⟩:CS)])++(dw c (BN b) b),n⟩)))))))
def nR:AzH zl Ap
 |0,_=>none
 |m+1,s=>EAp YG (nR m) s
def nP:NAh:=XA7 YG (nR AY)
def KBf:Awe:=fy u3 nP Ae8 U8 [JA4] Tryz.func122 JBf EAp XA7 nR [0]
inductive zn where
 |c0 (ag:Int) (Ko:Bool) (a:Ap) (b:CV) (d:AA) (e:Bool) (f:AA) (g h:Int) (i:AA) (j l:Int) (n:AA) (o:Bool) (p:AA) (q t:Int) (u:AA) (v w:Int) (ai:Af) (x:(List BQ)) (y:(List Af)) (aa:(List EG)) (ab:(List CS)) (ac:(List BQ)) (ad:(List Af)) (ae:(List EG)) (af:(List CS))
 |c1 (a:Ap) (b:CV) (d:AA) (e:Bool) (f:AA) (g h:Int) (i:AA) (j l:Int) (n:AA) (o:Bool) (p:AA) (q t:Int) (u:AA) (v w:Int) (x:(List BQ)) (y:(List Af)) (aa:(List EG)) (ab:(List CS)) (ac:(List BQ)) (ad:(List Af)) (ae:(List EG)) (af:(List CS))
def LBf:zn->Avy
 |.c0 Ko ai a b e f g h i j l n o p q t u v w x d y aa ab ac ad ae af ag=>(tdo Tryz.f71 32382,[vi 3 Ko,vp 4 256,vp 5 320,vp 8 512,vp 9 576,vp 11 704,vb 12 ai],[(256,.var [.str a.BO,.bool a.CZ,.BG 90 a.Bc.Ak,.str a.AU.Bv,li a.AU.DU,.BG 76 a.AU.AZ,li a.AU.BM,.str a.AU.Dh,li a.AU.fCount,.BG 127 a.BP,.BG 157 a.BD,li a.CW]),(320,.var [li b.Au,li b.EJ,li b.Ag,li b.Aj,.str b.fText,.bool b.CY,.bool b.CX]),(512,.var [.str e,.bool f,.own 1032770,.str g,li h,.own 1032773,li i,.str j,li l,.own 1032777,.own 1032778,li n]),(576,.var [.str o,.bool p,.own 1036866,.str q,li t,.own 1036869,li u,.str v,li w,.own 1036873,.own 1036874,li x]),(704,.var [li d.fId,li d.Aj,.bool d.CY,.bool d.CX,.bool d.Gw,.bool d.GH,.str d.fValue,li d.fNext]),(1032770,.sl 90 y),(1032773,.sl 76 aa),(1032777,.sl 127 ab),(1032778,.sl 157 ac),(1036866,.sl 90 ad),(1036869,.sl 76 ae),(1036873,.sl 127 af),(1036874,.sl 157 ag)])
 |.c1 a b e f g h i j l n o p q t u v w x y aa ab ac ad ae af ag=>(tdo Tryz.f71 129534,[vp 4 256,vp 5 320,vp 8 512,vp 9 576],[(256,.var [.str a.BO,.bool a.CZ,.BG 90 a.Bc.Ak,.str a.AU.Bv,li a.AU.DU,.BG 76 a.AU.AZ,li a.AU.BM,.str a.AU.Dh,li a.AU.fCount,.BG 127 a.BP,.BG 157 a.BD,li a.CW]),(320,.var [li b.Au,li b.EJ,li b.Ag,li b.Aj,.str b.fText,.bool b.CY,.bool b.CX]),(512,.var [.str e,.bool f,.own 1032770,.str g,li h,.own 1032773,li i,.str j,li l,.own 1032777,.own 1032778,li n]),(576,.var [.str o,.bool p,.own 1036866,.str q,li t,.own 1036869,li u,.str v,li w,.own 1036873,.own 1036874,li x]),(1032770,.sl 90 y),(1032773,.sl 76 aa),(1032777,.sl 127 ab),(1032778,.sl 157 ac),(1036866,.sl 90 ad),(1036869,.sl 76 ae),(1036873,.sl 127 af),(1036874,.sl 157 ag)])
def bg (g:NS) (i:JC) (j:MJ) (l:NAh) (m:JC) (k:Aw7 zn Ap):Yo:=fun e c h f=>mk ((g e).bind fun a=>cond (h != 0) (some a) ((i e (ArX c)).bind fun b=>(j (DX e) c.Ag).bind fun d=>cond (c.Au == 1) (ArL (Avw ((Fe a)+1)) (some ⟨a.BO,a.CZ,a.Bc,DX a,(Es a)++[(⟨ArO (Ar7 a),false⟩:EG)],He a,ArO (Ar7 a)⟩)) (cond (c.Au == 13) (cond (JD b) (ArL (GK b (Fe a:Int)) (ArL (GK (ArO b) (Fe a:Int)) (ArL (0<(Fe a)&&(((BN b) - 0)+(((Es a).drop (Oo b)).take ((Fe a) - (Oo b))).length)<=(Fe a)) (some ⟨a.BO,a.CZ,a.Bc,DX a,((Es a).take ((BN b) - 0))++(((Es a).drop (Oo b)).take ((Fe a) - (Oo b))),He a,Ar7 a⟩)))) (cond (c.Au == 2) (cond (JD b) (ArL (AwI b (Fe a)) (some ⟨a.BO,a.CZ,a.Bc,DX a,(Es a).set (BN b) (⟨(Ap7 (Es a) b ⟨0,false⟩).fId,true⟩:EG),He a,Ar7 a⟩)) (k (.c0 f d.2 e c IK false IK 0 0 IK 0 0 a.BO a.CZ (DX a).Bv (Aqa a) (Aqk a) (Aql (DX a)) (Qm a) (Ar7 a) d.1 [] [] [] [] (ArK a) (DC (DX a)) (Es a) (He a)))) (k (.c0 f d.2 e c IK false IK 0 0 IK 0 0 a.BO a.CZ (DX a).Bv (Aqa a) (Aqk a) (Aql (DX a)) (Qm a) (Ar7 a) d.1 [] [] [] [] (ArK a) (DC (DX a)) (Es a) (He a))))) (cond (c.Au == 2) (cond (JD b) (ArL (AwI b (Fe a)) (some ⟨a.BO,a.CZ,a.Bc,DX a,(Es a).set (BN b) (⟨(Ap7 (Es a) b ⟨0,false⟩).fId,true⟩:EG),He a,Ar7 a⟩)) (k (.c0 f d.2 e c IK false IK 0 0 IK 0 0 a.BO a.CZ (DX a).Bv (Aqa a) (Aqk a) (Aql (DX a)) (Qm a) (Ar7 a) d.1 [] [] [] [] (ArK a) (DC (DX a)) (Es a) (He a)))) (k (.c0 f d.2 e c IK false IK 0 0 IK 0 0 a.BO a.CZ (DX a).Bv (Aqa a) (Aqk a) (Aql (DX a)) (Qm a) (Ar7 a) d.1 [] [] [] [] (ArK a) (DC (DX a)) (Es a) (He a)))))))
def FAp (a:NS) (b:JC) (c:MJ) (d:NAh) (e:JC) (k:Aw7 zn Ap):Aw7 zn Ap
 |.c0 H J t f u v w x y z A B g h j l n o p s G C D E F i m q r=>mk (cond (f.Au == 5) (cond J (cond (G.Aj == 2) (cond (JD H) (cond (Aqt H G.fNext) ((d ⟨g,h,⟨i⟩,⟨j,l,m,n,o,p⟩,q,r,s⟩ G.fId (ArO H)).bind fun I=>some I) (k (.c1 t f u v w x y z A B g h j l n o p s C D E F i m q r))) (k (.c1 t f u v w x y z A B g h j l n o p s C D E F i m q r))) (k (.c1 t f u v w x y z A B g h j l n o p s C D E F i m q r))) (k (.c1 t f u v w x y z A B g h j l n o p s C D E F i m q r))) (k (.c1 t f u v w x y z A B g h j l n o p s C D E F i m q r)))
 |.c1 u t _ _ _ _ _ _ _ _ h i l m o p q s _ _ _ _ j n r g=>mk (cond (t.Au == 9) ((e u t.Ag).bind fun f=>cond (JD f) (ArL (GK f (g.length:Int)) (ArL (GK (ArO f) (g.length:Int)) (ArL (0<g.length&&(((BN f) - 0)+(dw g (Oo f) (ArO f)).length)<=g.length) (some ⟨h,i,⟨j⟩,⟨l,m,n,o,p,q⟩,r,(g.take ((BN f) - 0))++(dw g (Oo f) (ArO f)),s⟩)))) (some ⟨h,i,⟨j⟩,⟨l,m,n,o,p,q⟩,r,g,s⟩)) (some ⟨h,i,⟨j⟩,⟨l,m,n,o,p,q⟩,r,g,s⟩))
def cZ:AzH zn Ap
 |0,_=>none
 |m+1,s=>FAp nN mP SH nP YG (cZ m) s
def LU:Yo:=bg nN mP SH nP YG (cZ AY)
def MBf:Awe:=fy u4 LU AUu U8 [IBf,SBG,CAn,KBf,JA4] Tryz.func71 LBf FAp bg cZ
inductive zo where
 |c0 (a b:Int) (d:AA) (e f g:Int) (h:AA) (i:Bool) (j:AA) (l n:Int) (o:AA) (p q:Int) (t:DW) (u:(List Ah)) (v:(List BQ)) (w:(List Af)) (x:(List EG)) (y:(List CS)) (aa:(List Int)) (ab:(List AA)) (ac:(List D8)) (ad:(List Ah))
def NBf:zo->Avy
 |.c0 b d e f g h i j l n o p q t a u v w x y aa ab ac ad=>(tdo Tryz.f32 1000,[vp 0 0,vi 2 b,vp 4 256,vi 7 d,vs 8 e,vi 9 f,vo 45 2928,vi 46 g,vi 47 h],[(0,.var [.str i,.bool j,.own 1000002,.str l,li n,.own 1000005,li o,.str p,li q,.own 1000009,.own 1000010,li t,.own 1000012,.own 1000013,.own 1000014,.own 1000015]),(256,.var [li a.BA.Au,li a.BA.EJ,li a.BA.Ag,li a.BA.Aj,.str a.BA.fText,.bool a.BA.CY,.bool a.BA.CX,.bool a.Nr,.BG 3 a.Lc,.bool a.JY]),(2928,.sl 78 u),(1000002,.sl 90 v),(1000005,.sl 76 w),(1000009,.sl 127 x),(1000010,.sl 157 y),(1000012,.sl 3 aa),(1000013,.sl 9 ab),(1000014,.sl 48 ac),(1000015,.sl 78 ad)])
def sS (h:Jl) (i:Yn) (e:JC) (j:zq) (l:Yo) (m:Qj) (k:Aw7 zo Bg):OAh:=fun a c f=>mk ((h a.AX c.BA).bind fun b=>cond c.Nr (cond (Avi (Arb b.1)) (cond (RI DI (Arb b.1)) (La (i a (b.1.getD (BN DI) (⟨0,IK,0,⟨0,0,false,false,false,false,IK,0⟩⟩:Ah)) c.Lc)) none) ((e a.AX c.BA.Ag).bind fun d=>k (.c0 f b.2.1 b.2.2 d (Arb b.1) 0 (Aq7 a) (Av0 a) (AwQ a) (Kr a) (Lm a) (Ku a) (ArH a) (ArM a) c b.1 (Avm a) (ML a) (Aqp a) (Qp a) a.Bq (ArN a) a.Cm a.CO))) ((e a.AX c.BA.Ag).bind fun g=>k (.c0 f b.2.1 b.2.2 g (Arb b.1) 0 (Aq7 a) (Av0 a) (AwQ a) (Kr a) (Lm a) (Ku a) (ArH a) (ArM a) c b.1 (Avm a) (ML a) (Aqp a) (Qp a) a.Bq (ArN a) a.Cm a.CO)))
def sU (a:Jl) (b:Yn) (c:JC) (d:zq) (e:Yo) (f:Qj) (k:Aw7 zo Bg):Aw7 zo Bg
 |.c0 q l r o p i v w y z B C D G m j x A E F s t u n=>mk (cond (Aqt i p) (cond (AwI i j.length) ((d ⟨v,w,⟨x⟩,⟨y,z,A,B,C,D⟩,E,F,G⟩ (Yp j i IK ⟨0,0,false,false,false,false,IK,0⟩)).bind fun g=>cond g.1 (cond (dn n) (k (.c0 q l r o p (ArO i) g.2.BO g.2.CZ (DX g.2).Bv (Aqa g.2) (Aqk g.2) (Aql (DX g.2)) (Qm g.2) (Ar7 g.2) m j (ArK g.2) (DC (DX g.2)) (Es g.2) (He g.2) s t u (n++[Yp j i IK ⟨0,0,false,false,false,false,IK,0⟩]))) none) (k (.c0 q l r o p (ArO i) g.2.BO g.2.CZ (DX g.2).Bv (Aqa g.2) (Aqk g.2) (Aql (DX g.2)) (Qm g.2) (Ar7 g.2) m j (ArK g.2) (DC (DX g.2)) (Es g.2) (He g.2) s t u n))) none) ((e ⟨v,w,⟨x⟩,⟨y,z,A,B,C,D⟩,E,F,G⟩ m.BA l o).bind fun H=>(f ⟨H,s,t,u,n⟩ l r).bind fun h=>cond (m.BA.Au == 5) (cond (Aq6 l) (cond (Av2 ((h.Cm.length+1)*24)) (some ⟨h.AX,h.Bq,ArN h,h.Cm++[(⟨m.BA.Ag,o,q⟩:D8)],h.CO⟩) none) (some h)) (some h)))
def Zh:AzH zo Bg
 |0,_=>none
 |m+1,s=>sU Qx Xu AqU Vr LU WB (Zh m) s
def Av6:OAh:=sS Qx Xu AqU Vr LU WB (Zh AY)
def OBf:Awe:=fy u3 Av6 Ae9 VB [CBf,HBf,XBG,CBG,MBf,TA3] Tryz.func32 NBf sU sS Zh [0]
inductive zu where
 |c0 (v:AA) (w x:(List DW)) (y aa:Int) (a:AA) (b:Bool) (d:AA) (e f:Int) (g:AA) (h i:Int) (ab:AA) (ac:Bool) (ad:AA) (ae af:Int) (ag:AA) (Ko ai:Int) (j:(List BQ)) (l:(List Af)) (n:(List EG)) (o:(List CS)) (p:(List Int)) (q:(List AA)) (t:(List D8)) (u:(List Ah)) (AwB:(List BQ)) (Pz:(List Af)) (al:(List EG)) (am:(List CS))
 |c1 (an:(List DW)) (ao ap:Int) (a:AA) (b:Bool) (d:AA) (e f:Int) (g:AA) (h i:Int) (aq:AA) (ar:Bool) (AaQ:AA) (av aw:Int) (ax:AA) (Avt az:Int) (j:(List BQ)) (l:(List Af)) (n:(List EG)) (o:(List CS)) (p:(List Int)) (q:(List AA)) (t:(List D8)) (u:(List Ah)) (a0:(List BQ)) (a1:(List Af)) (a2:(List EG)) (a3:(List CS)) (a4:(List Int)) (a5:(List AA)) (a6:(List D8)) (a7:(List Ah))
def PBf:zu->Avy
 |.c0 v w x y aa a b d e f g h i ab ac ad ae af ag Ko ai j l n o p q t u AwB Pz al am=>(tdo Tryz.f8 488,[vs 1 v,vr 2 72 w,vp 6 384,vp 8 512,vr 29 72 x,vi 30 y,vi 31 aa],[(384,.var [.str a,.bool b,.own 1024578,.str d,li e,.own 1024581,li f,.str g,li h,.own 1024585,.own 1024586,li i,.own 1024588,.own 1024589,.own 1024590,.own 1024591]),(512,.var [.str ab,.bool ac,.own 1032770,.str ad,li ae,.own 1032773,li af,.str ag,li Ko,.own 1032777,.own 1032778,li ai]),(1024578,.sl 90 j),(1024581,.sl 76 l),(1024585,.sl 127 n),(1024586,.sl 157 o),(1024588,.sl 3 p),(1024589,.sl 9 q),(1024590,.sl 48 t),(1024591,.sl 78 u),(1032770,.sl 90 AwB),(1032773,.sl 76 Pz),(1032777,.sl 127 al),(1032778,.sl 157 am)])
 |.c1 an ao ap a b d e f g h i aq ar AaQ av aw ax Avt az j l n o p q t u a0 a1 a2 a3 a4 a5 a6 a7=>(tdo Tryz.f8 2024,[vp 6 384,vp 12 768,vr 46 72 an,vi 47 ao,vi 48 ap],[(384,.var [.str a,.bool b,.own 1024578,.str d,li e,.own 1024581,li f,.str g,li h,.own 1024585,.own 1024586,li i,.own 1024588,.own 1024589,.own 1024590,.own 1024591]),(768,.var [.str aq,.bool ar,.own 1049154,.str AaQ,li av,.own 1049157,li aw,.str ax,li Avt,.own 1049161,.own 1049162,li az,.own 1049164,.own 1049165,.own 1049166,.own 1049167]),(1024578,.sl 90 j),(1024581,.sl 76 l),(1024585,.sl 127 n),(1024586,.sl 157 o),(1024588,.sl 3 p),(1024589,.sl 9 q),(1024590,.sl 48 t),(1024591,.sl 78 u),(1049154,.sl 90 a0),(1049157,.sl 76 a1),(1049161,.sl 127 a2),(1049162,.sl 157 a3),(1049164,.sl 3 a4),(1049165,.sl 9 a5),(1049166,.sl 48 a6),(1049167,.sl 78 a7)])
def YA7 (d:eF) (f:Yq) (g:CG) (h:JAh) (i:OAh) (k:Aw7 zu (Bg×Bool)):qI:=fun e c b=>mk ((d e c).bind fun a=>cond (!a.2) (some (⟨⟨IK,false,IZ,AwT,[],[],0⟩,[],[],[],[]⟩,false)) (cond ((b.length:Int) > 40) (some (⟨⟨IK,false,IZ,AwT,[],[],0⟩,[],[],[],[]⟩,false)) (k (.c0 c b b (b.length:Int) 0 IK false IK 0 0 IK 0 0 a.1.BO a.1.CZ (DX a.1).Bv (Aqa a.1) (Aqk a.1) (Aql (DX a.1)) (Qm a.1) (Ar7 a.1) [] [] [] [] [] [] [] [] (ArK a.1) (DC (DX a.1)) (Es a.1) (He a.1)))))
def lC (a:eF) (b:Yq) (c:CG) (d:JAh) (e:OAh) (k:Aw7 zu (Bg×Bool)):Aw7 zu (Bg×Bool)
 |.c0 l h g i f m n o p q r s t u v w x y z A B C D E F G H I J L M N O=>mk (cond (Aqt f i) (cond (AwI f g.length) ((b (g.getD (BN f) (⟨⟨0,0,0,0,IK,false,false⟩,false,[],false⟩:DW))).bind fun j=>cond (!j) (some (⟨⟨IK,false,IZ,AwT,[],[],0⟩,[],[],[],[]⟩,false)) (k (.c0 l h g i (ArO f) m n o p q r s t u v w x y z A B C D E F G H I J L M N O))) none) ((c l).bind fun P=>k (.c1 h (h.length:Int) 0 m n o p q r s t u v w x y z A B C D E F G H I J L M N O [] [] [] [⟨1,P,0,⟨0,0,false,false,false,false,IK,0⟩⟩])))
 |.c1 i j h B C D E F G H I l m o p r s t w J L M N O P Q R n q u v x y z A=>mk (cond (Aqt h j) (cond (AwI h i.length) (cond (i.getD (BN h) (⟨⟨0,0,0,0,IK,false,false⟩,false,[],false⟩:DW)).JY ((d ⟨⟨l,m,⟨n⟩,⟨o,p,q,r,s,t⟩,u,v,w⟩,x,y,z,A⟩).bind fun f=>k (.c1 i j (ArO h) B C D E F G H I (Aq7 f) (Av0 f) (AwQ f) (Kr f) (Lm f) (Ku f) (ArH f) (ArM f) J L M N O P Q R (Avm f) (ML f) (Aqp f) (Qp f) f.Bq (ArN f) f.Cm f.CO)) ((e ⟨⟨l,m,⟨n⟩,⟨o,p,q,r,s,t⟩,u,v,w⟩,x,y,z,A⟩ (i.getD (BN h) (⟨⟨0,0,0,0,IK,false,false⟩,false,[],false⟩:DW)) h).bind fun g=>k (.c1 i j (ArO h) B C D E F G H I (Aq7 g) (Av0 g) (AwQ g) (Kr g) (Lm g) (Ku g) (ArH g) (ArM g) J L M N O P Q R (Avm g) (ML g) (Aqp g) (Qp g) g.Bq (ArN g) g.Cm g.CO))) none) (some (⟨⟨l,m,⟨n⟩,⟨o,p,q,r,s,t⟩,u,v,w⟩,x,y,z,A⟩,true)))
def Vs:AzH zu (Bg×Bool)
 |0,_=>none
 |m+1,s=>lC xI xM Ap8 Xy Av6 (Vs m) s
def lD:qI:=YA7 xI xM Ap8 Xy Av6 (Vs AY)
def QBf:Awe:=fy u3 lD AU4 AKq [IBa,JBa,RJ,AkF,OBf] Tryz.func8 PBf lC YA7 Vs
def ZA7 (b:AqW):XG:=fun a=>mk (Sl (b a.Au 1 13) (Sl (b (ArX a) 0 1000) (Sl (b a.Ag 0 1000) (Sl (b a.Aj 0 3) (some (decide ((TT a.fText)<=1000))) (some false)) (some false)) (some false)) (some false))
def GAp:XG:=ZA7 Arz
def RBf:Awe:=BI u1 GAp AKm E8 [JV] Tryz.func74 ZA7
def WBH:XG:=fun a=>mk (some ((Aq6 a.Au) && ((Aq6 (ArX a)) && ((Aq6 a.Ag) && ((Aq6 a.Aj) && ((Avd a.fText IK) && ((a.CY == false) && ((a.CX == false) && true))))))))
def AN4:XG:=WBH
def SBf:Awe:=BI u1 AN4 AKm E8 [] Tryz.func75 WBH
def BA8 (b c:XG):Yq:=fun a=>mk (C9 ((AsC a.Lc)<=30) (Sl (b a.BA) (some true) (C9 a.JY (WU (c a.BA)) (some false))) (some false))
def yL:Yq:=BA8 GAp AN4
def TBf:Awe:=BI u1 yL AU1 E8 [RBf,SBf] Tryz.func34 BA8
inductive lG where
 |c0 (a:(List DW)) (an:Bool) (ao:Int) (b:AA) (d:Bool) (e:AA) (f g:Int) (h:AA) (i j:Int) (l:AA) (n:Bool) (o:AA) (p q:Int) (t:AA) (u v:Int) (w:(List BQ)) (x:(List Af)) (y:(List EG)) (aa:(List CS)) (ab:(List Int)) (ac:(List AA)) (ad:(List D8)) (ae:(List Ah)) (af:(List BQ)) (ag:(List Af)) (Ko:(List EG)) (ai:(List CS)) (AwB:(List Int)) (Pz:(List AA)) (al:(List D8)) (am:(List Ah))
 |c1 (a:(List DW)) (ap:Int) (b:AA) (d:Bool) (e:AA) (f g:Int) (h:AA) (i j:Int) (l:AA) (n:Bool) (o:AA) (p q:Int) (t:AA) (u v:Int) (w:(List BQ)) (x:(List Af)) (y:(List EG)) (aa:(List CS)) (ab:(List Int)) (ac:(List AA)) (ad:(List D8)) (ae:(List Ah)) (af:(List BQ)) (ag:(List Af)) (Ko:(List EG)) (ai:(List CS)) (AwB:(List Int)) (Pz:(List AA)) (al:(List D8)) (am:(List Ah))
def UBf:lG->Avy
 |.c0 a an ao b d e f g h i j l n o p q t u v w x y aa ab ac ad ae af ag Ko ai AwB Pz al am=>(tdo Tryz.f9 464,[vr 2 72 a,vp 6 384,vp 8 512,vb 9 an,vi 10 ao],[(384,.var [.str b,.bool d,.own 1024578,.str e,li f,.own 1024581,li g,.str h,li i,.own 1024585,.own 1024586,li j,.own 1024588,.own 1024589,.own 1024590,.own 1024591]),(512,.var [.str l,.bool n,.own 1032770,.str o,li p,.own 1032773,li q,.str t,li u,.own 1032777,.own 1032778,li v,.own 1032780,.own 1032781,.own 1032782,.own 1032783]),(1024578,.sl 90 w),(1024581,.sl 76 x),(1024585,.sl 127 y),(1024586,.sl 157 aa),(1024588,.sl 3 ab),(1024589,.sl 9 ac),(1024590,.sl 48 ad),(1024591,.sl 78 ae),(1032770,.sl 90 af),(1032773,.sl 76 ag),(1032777,.sl 127 Ko),(1032778,.sl 157 ai),(1032780,.sl 3 AwB),(1032781,.sl 9 Pz),(1032782,.sl 48 al),(1032783,.sl 78 am)])
 |.c1 a ap b d e f g h i j l n o p q t u v w x y aa ab ac ad ae af ag Ko ai AwB Pz al am=>(tdo Tryz.f9 2000,[vr 2 72 a,vp 6 384,vp 8 512,vi 11 ap],[(384,.var [.str b,.bool d,.own 1024578,.str e,li f,.own 1024581,li g,.str h,li i,.own 1024585,.own 1024586,li j,.own 1024588,.own 1024589,.own 1024590,.own 1024591]),(512,.var [.str l,.bool n,.own 1032770,.str o,li p,.own 1032773,li q,.str t,li u,.own 1032777,.own 1032778,li v,.own 1032780,.own 1032781,.own 1032782,.own 1032783]),(1024578,.sl 90 w),(1024581,.sl 76 x),(1024585,.sl 127 y),(1024586,.sl 157 aa),(1024588,.sl 3 ab),(1024589,.sl 9 ac),(1024590,.sl 48 ad),(1024591,.sl 78 ae),(1032770,.sl 90 af),(1032773,.sl 76 ag),(1032777,.sl 127 Ko),(1032778,.sl 157 ai),(1032780,.sl 3 AwB),(1032781,.sl 9 Pz),(1032782,.sl 48 al),(1032783,.sl 78 am)])
def CA8 (b:qJ) (f:Yq) (g:XH) (h:NS) (k:Aw7 lG (Bg×Bool)):qI:=fun c d e=>mk ((b c d).bind fun a=>k (.c0 e a.2 0 IK false IK 0 0 IK 0 0 (Aq7 a.1) (Av0 a.1) (AwQ a.1) (Kr a.1) (Lm a.1) (Ku a.1) (ArH a.1) (ArM a.1) [] [] [] [] [] [] [] [] (Avm a.1) (ML a.1) (Aqp a.1) (Qp a.1) a.1.Bq (ArN a.1) a.1.Cm a.1.CO))
def lF (a:qJ) (b:Yq) (c:XH) (d:NS) (k:Aw7 lG (Bg×Bool)):Aw7 lG (Bg×Bool)
 |.c0 e O f g h i j l m n o p q r s t u v w x y z A B C D E F G H I J L M N=>mk (cond (Gm f e.length) (cond O (cond ((e.length:Int)<=40) (cond (AwI f e.length) ((b (e.getD (BN f) (⟨⟨0,0,0,0,IK,false,false⟩,false,[],false⟩:DW))).bind fun P=>k (.c0 e P (ArO f) g h i j l m n o p q r s t u v w x y z A B C D E F G H I J L M N)) none) (k (.c0 e false (ArO f) g h i j l m n o p q r s t u v w x y z A B C D E F G H I J L M N))) (cond (!O) (some (⟨⟨IK,false,IZ,AwT,[],[],0⟩,[],[],[],[]⟩,false)) (k (.c1 e 0 g h i j l m n o p q r s t u v w x y z A B C D E F G H I J L M N)))) (cond (!O) (some (⟨⟨IK,false,IZ,AwT,[],[],0⟩,[],[],[],[]⟩,false)) (k (.c1 e 0 g h i j l m n o p q r s t u v w x y z A B C D E F G H I J L M N))))
 |.c1 g f z A B C D E F G h i l m o p q t H I J L M N O P j n r s u v w x=>mk (cond (Gm f g.length) (cond (AwI f g.length) ((c ⟨⟨h,i,⟨j⟩,⟨l,m,n,o,p,q⟩,r,s,t⟩,u,v,w,x⟩ f (g.getD (BN f) (⟨⟨0,0,0,0,IK,false,false⟩,false,[],false⟩:DW))).bind fun e=>k (.c1 g (ArO f) z A B C D E F G (Aq7 e) (Av0 e) (AwQ e) (Kr e) (Lm e) (Ku e) (ArH e) (ArM e) H I J L M N O P (Avm e) (ML e) (Aqp e) (Qp e) e.Bq (ArN e) e.Cm e.CO)) none) ((d ⟨h,i,⟨j⟩,⟨l,m,n,o,p,q⟩,r,s,t⟩).bind fun y=>some (⟨y,u,v,w,x⟩,true)))
def Vt:AzH lG (Bg×Bool)
 |0,_=>none
 |m+1,s=>lF aJ yL Q7 Xv (Vt m) s
def aK:qI:=CA8 aJ yL Q7 Xv (Vt AY)
def VBf:Awe:=fy u3 aK AU4 AKq [WBD,TBf,KBF,IBF] Tryz.func9 UBf lF CA8 Vt
inductive zx where
 |c0 (a:Int) (b:(List D8)) (d e:Int) (f:(List Int))
def WBf:zx->Avy
 |.c0 a b d e f=>(tdo Tryz.f10 232,[vi 1 a,vo 5 368,vr 8 48 b,vi 9 d,vi 10 e],[(368,.sl 3 f)])
def XBH (k:Aw7 zx (List Int)):qK:=fun a b=>k (.c0 b a (a.length:Int) 0 [])
def HAp (k:Aw7 zx (List Int)):Aw7 zx (List Int)
 |.c0 e b d a c=>mk (cond (Aqt a d) (cond (AwI a b.length) (cond ((Yr b a).Ag == e) (cond (NV c) (k (.c0 e b d (ArO a) (c++[(Yr b a).Dv]))) none) (k (.c0 e b d (ArO a) c))) none) (Ej c))
def aO:AzH zx (List Int)
 |0,_=>none
 |m+1,s=>HAp (aO m) s
def IAp:qK:=XBH (aO AY)
def XBf:Awe:=fy u2 IAp AfA JZ [] Tryz.func10 WBf HAp XBH aO
inductive zy where
 |c0 (a:(List D8)) (b d:Int) (e:(List Int))
def YBf:zy->Avy
 |.c0 a b d e=>(tdo Tryz.f12 464,[vr 0 48 a,vi 1 b,vo 5 368,vi 6 d],[(368,.sl 3 e)])
def YBH (k:Aw7 zy (List Int)):qK:=fun a b=>k (.c0 a b 0 [])
def JAp (k:Aw7 zy (List Int)):Aw7 zy (List Int)
 |.c0 b d a c=>mk (cond (Gm a b.length) (cond (AwI a b.length) (cond ((Yr b a).Ag == d) (cond (AwI a b.length) (cond (NV c) (k (.c0 b d (ArO a) (c++[(Yr b a).Dv]))) none) none) (k (.c0 b d (ArO a) c))) none) (Ej c))
def aP:AzH zy (List Int)
 |0,_=>none
 |m+1,s=>JAp (aP m) s
def KAp:qK:=YBH (aP AY)
def ZBf:Awe:=fy u2 KAp AfA JZ [] Tryz.func12 YBf JAp YBH aP
inductive JAe where
 |c0 (a b:(List Int)) (d:Int)
def AkP:JAe->Avy
 |.c0 a b d=>(tdo Tryz.f11 464,[vr 0 3 a,vr 1 3 b,vi 5 d],[])
def DA8 (k:Aw7 JAe Bool):PAh:=fun a b=>mk (cond ((AsC a) != (AsC b)) (some false) (k (.c0 a b 0)))
def LAp (k:Aw7 JAe Bool):Aw7 JAe Bool
 |.c0 b c a=>mk (cond (Aqt a (AsC b)) (cond (Dt a b) (cond (Dt a c) (cond ((GZ b a) != (GZ c a)) (some false) (k (.c0 b c (ArO a)))) none) none) (some true))
def lH:AzH JAe Bool
 |0,_=>none
 |m+1,s=>LAp (lH m) s
def xO:PAh:=DA8 (lH AY)
def BBg:Awe:=fy u2 xO bK E8 [] Tryz.func11 AkP LAp DA8 lH
inductive lK where
 |c0 (a:AA) (b d e:Int) (f g:(List AA)) (h i:(List AA))
def CBg:lK->Avy
 |.c0 a b d e f g h i=>(tdo Tryz.f37 976,[vs 0 a,vp 2 128,vp 4 256,vi 5 b],[(128,.var [li d,.own 1008193,.own 1008194]),(256,.var [li e,.own 1016385,.own 1016386]),(1008193,.sl 9 f),(1008194,.sl 9 g),(1016385,.sl 9 h),(1016386,.sl 9 i)])
def EA8 (k:Aw7 lK (IL×Bool)):UAt:=fun a=>mk (cond ((TT a) != 49) (some (Avj,false)) (cond (RI DI (TT a)) (cond ((RS a)>=4) (some (Avj,false)) (cond (RI DI (TT a)) (k (.c0 a 0 0 (RS a) [] [] [] [])) none)) none))
def MAp (k:Aw7 lK (IL×Bool)):Aw7 lK (IL×Bool)
 |.c0 b a f e g h c d=>mk (cond (a<12) (cond (Ll (Ad (1+(Ad (a*4)))) (Ad (1+(Ad ((ArO a)*4)))) (TT b)) (cond (WV a) (cond (AqV c) (k (.c0 b (ArO a) f e g h (c++[U0 b (1+(Ad (a*4))) (1+(Ad ((ArO a)*4)))]) d)) none) (cond (AqV d) (k (.c0 b (ArO a) f e g h c (d++[U0 b (1+(Ad (a*4))) (1+(Ad ((ArO a)*4)))]))) none)) none) (some (⟨e,c,d⟩,true)))
def lJ:AzH lK (IL×Bool)
 |0,_=>none
 |m+1,s=>MAp (lJ m) s
def lI:UAt:=EA8 (lJ AY)
def DBg:Awe:=fy u1 lI Cc AVZ [] Tryz.func37 CBg MAp EA8 lJ
def FA8 (d:UAt):QAh:=fun a=>mk (cond ((TT a) != (Ad ((Ad ((2:Int)*TK))+4))) (some (⟨Avj,IK,Avj⟩,false)) (cond ((Avv DI TK) && (decide (49<=(TT a)))) ((d (P5 a TK)).bind fun b=>cond (GK (Fb TK LC) (TT a)) ((d (a.extract (Aqq (TK+LC)) a.size)).bind fun c=>cond (!b.2) (some (⟨Avj,IK,Avj⟩,false)) (cond (!c.2) (some (⟨Avj,IK,Avj⟩,false)) (cond (((Avv DI TK) && (decide (49<=(Fb TK LC)))) && (Avv (Fb TK LC) (TT a))) (some (⟨b.1,JE a TK (TK+LC),c.1⟩,true)) none))) none) none))
def xP:QAh:=FA8 lI
def EBg:Awe:=BI u1 xP Cc AVa [DBg] Tryz.func13 FA8
def GA8 (c:XI):RAh:=fun a=>mk ((c a.QU).bind fun b=>cond (!b) AwO ((c a.QV).bind fun d=>cond (!d) AwO (some (Fb (Ad (4*a.QU.Dv)) a.QV.Dv))))
def xQ:RAh:=GA8 ig
def FBg:Awe:=BI u1 xQ AVb FN [NBE] Tryz.func14 GA8
inductive NAe where
 |c0 (v:Int) (a:AA) (b:Bool) (d:AA) (e f:Int) (g:AA) (h i:Int) (w:AA) (x:Bool) (y:AA) (aa ab:Int) (ac:AA) (ad ae:Int) (j:(List BQ)) (l:(List Af)) (n:(List EG)) (o:(List CS)) (p:(List Int)) (q:(List AA)) (t:(List D8)) (u:(List Ah)) (af:(List BQ)) (ag:(List Af)) (Ko:(List EG)) (ai:(List CS)) (AwB:(List Int)) (Pz:(List AA)) (al:(List D8)) (am:(List Ah))
 |c1 (v an:Int) (a:AA) (b:Bool) (d:AA) (e f:Int) (g:AA) (h i:Int) (w:AA) (x:Bool) (y:AA) (aa ab:Int) (ac:AA) (ad ae:Int) (ao:(List Int)) (j:(List BQ)) (l:(List Af)) (n:(List EG)) (o:(List CS)) (p:(List Int)) (q:(List AA)) (t:(List D8)) (u:(List Ah)) (af:(List BQ)) (ag:(List Af)) (Ko:(List EG)) (ai:(List CS)) (AwB:(List Int)) (Pz:(List AA)) (al:(List D8)) (am:(List Ah))
 |c2 (ap:Int) (a:AA) (b:Bool) (d:AA) (e f:Int) (g:AA) (h i:Int) (j:(List BQ)) (l:(List Af)) (n:(List EG)) (o:(List CS)) (p:(List Int)) (q:(List AA)) (t:(List D8)) (u:(List Ah))
def GBg:NAe->Avy
 |.c0 v a b d e f g h i w x y aa ab ac ad ae j l n o p q t u af ag Ko ai AwB Pz al am=>(tdo Tryz.f3 8144,[vp 6 384,vp 8 512,vi 10 v],[(384,.var [.str a,.bool b,.own 1024578,.str d,li e,.own 1024581,li f,.str g,li h,.own 1024585,.own 1024586,li i,.own 1024588,.own 1024589,.own 1024590,.own 1024591]),(512,.var [.str w,.bool x,.own 1032770,.str y,li aa,.own 1032773,li ab,.str ac,li ad,.own 1032777,.own 1032778,li ae,.own 1032780,.own 1032781,.own 1032782,.own 1032783]),(1024578,.sl 90 j),(1024581,.sl 76 l),(1024585,.sl 127 n),(1024586,.sl 157 o),(1024588,.sl 3 p),(1024589,.sl 9 q),(1024590,.sl 48 t),(1024591,.sl 78 u),(1032770,.sl 90 af),(1032773,.sl 76 ag),(1032777,.sl 127 Ko),(1032778,.sl 157 ai),(1032780,.sl 3 AwB),(1032781,.sl 9 Pz),(1032782,.sl 48 al),(1032783,.sl 78 am)])
 |.c1 v an a b d e f g h i w x y aa ab ac ad ae ao j l n o p q t u af ag Ko ai AwB Pz al am=>(tdo Tryz.f3 2085488,[vp 6 384,vp 8 512,vi 10 v,vo 11 752,vi 12 an],[(384,.var [.str a,.bool b,.own 1024578,.str d,li e,.own 1024581,li f,.str g,li h,.own 1024585,.own 1024586,li i,.own 1024588,.own 1024589,.own 1024590,.own 1024591]),(512,.var [.str w,.bool x,.own 1032770,.str y,li aa,.own 1032773,li ab,.str ac,li ad,.own 1032777,.own 1032778,li ae,.own 1032780,.own 1032781,.own 1032782,.own 1032783]),(752,.sl 3 ao),(1024578,.sl 90 j),(1024581,.sl 76 l),(1024585,.sl 127 n),(1024586,.sl 157 o),(1024588,.sl 3 p),(1024589,.sl 9 q),(1024590,.sl 48 t),(1024591,.sl 78 u),(1032770,.sl 90 af),(1032773,.sl 76 ag),(1032777,.sl 127 Ko),(1032778,.sl 157 ai),(1032780,.sl 3 AwB),(1032781,.sl 9 Pz),(1032782,.sl 48 al),(1032783,.sl 78 am)])
 |.c2 ap a b d e f g h i j l n o p q t u=>(tdo Tryz.f3 16336,[vp 6 384,vi 13 ap],[(384,.var [.str a,.bool b,.own 1024578,.str d,li e,.own 1024581,li f,.str g,li h,.own 1024585,.own 1024586,li i,.own 1024588,.own 1024589,.own 1024590,.own 1024591]),(1024578,.sl 90 j),(1024581,.sl 76 l),(1024585,.sl 127 n),(1024586,.sl 157 o),(1024588,.sl 3 p),(1024589,.sl 9 q),(1024590,.sl 48 t),(1024591,.sl 78 u)])
def HA8 (e:qL) (f:FAh) (g h:qI) (i j:qK) (l:PAh) (m:QAh) (n:RAh) (k:Aw7 NAe Bool):qL:=fun o=>mk ((e ()).bind fun d=>cond d (some true) ((f ()).bind fun c=>(g c.1 c.2.1 c.2.2).bind fun a=>(h c.1 c.2.1 c.2.2).bind fun b=>cond (!a.2) (some false) (cond ((a.1.Cm.length:Int) != (b.1.Cm.length:Int)) (some false) (cond ((AsC a.1.Bq) != (c.2.2.length:Int)) (some false) (k (.c0 1 (Aq7 a.1) (Av0 a.1) (AwQ a.1) (Kr a.1) (Lm a.1) (Ku a.1) (ArH a.1) (ArM a.1) (Aq7 b.1) (Av0 b.1) (AwQ b.1) (Kr b.1) (Lm b.1) (Ku b.1) (ArH b.1) (ArM b.1) (Avm a.1) (ML a.1) (Aqp a.1) (Qp a.1) a.1.Bq (ArN a.1) a.1.Cm a.1.CO (Avm b.1) (ML b.1) (Aqp b.1) (Qp b.1) b.1.Bq (ArN b.1) b.1.Cm b.1.CO))))))
def XQ (a:qL) (b:FAh) (c d:qI) (e f:qK) (g:PAh) (h:QAh) (i:RAh) (k:Aw7 NAe Bool):Aw7 NAe Bool
 |.c0 j q r s t u v w x F G H I J L M N y z A B C D m E O P Q R S T o U=>mk (cond (j<=40) ((e m j).bind fun l=>(f o j).bind fun n=>(g l n).bind fun p=>cond (!p) (some false) (k (.c1 j 1 q r s t u v w x F G H I J L M N l y z A B C D m E O P Q R S T o U))) (k (.c2 0 q r s t u v w x y z A B C D m E)))
 |.c1 m j n o p q r s t u v w x y z A B C l D E F G H I J L M N O P Q R S T=>mk (cond (Aqt j (AsC l)) (cond (Dt j l) (cond (EZ (j - 1) l) (cond (Avv (GZ l j) (Ld l (j - 1))) (some false) (k (.c1 m (ArO j) n o p q r s t u v w x y z A B C l D E F G H I J L M N O P Q R S T))) none) none) (k (.c0 (ArO m) n o p q r s t u v w x y z A B C D E F G H I J L M N O P Q R S T)))
 |.c2 j p q r s t u v w x y z A B m l C=>mk (cond (Gm j l.length) (cond (AwI j l.length) (cond (AwE (Yr l j).AUi (En m)) ((h (Tf m (Yr l j).AUi IK)).bind fun n=>cond (!n.2) (some false) ((i n.1).bind fun o=>cond (o != (Yr l j).Dv) (some false) (k (.c2 (ArO j) p q r s t u v w x y z A B m l C)))) none) none) (some true))
def Aqm:AzH NAe Bool
 |0,_=>none
 |m+1,s=>XQ AGY xR lD aK IAp KAp xO xP xQ (Aqm m) s
def ACt:qL:=HA8 AGY xR lD aK IAp KAp xO xP xQ (Aqm AY)
theorem AaR:Q8 ctx PP 3 wY E8 (u1 ACt):=ty u1 ACt wY E8 [PBS,AkX,QBf,VBf,XBf,ZBf,BBg,EBg,FBg] Tryz.func3 GBg XQ HA8 Aqm
end
end Go.Proofs.YtkbbicgglblfiaaGreatDoor.G
