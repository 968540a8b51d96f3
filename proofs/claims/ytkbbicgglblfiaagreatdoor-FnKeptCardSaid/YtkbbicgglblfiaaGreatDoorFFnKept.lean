/- Functions of the program, told by plain functions: part 2 of 2. -/
import Derived.Test.YtkbbicgglblfiaaGreatDoorFFnKepta
namespace Go.Proofs.YtkbbicgglblfiaaGreatDoor.G
open Go Go.Ev
noncomputable section
set_option linter.unusedVariables false
set_option maxRecDepth 100000
set_option maxHeartbeats 4000000
set_option linter.unusedSectionVars false
variable [PC]
def PA8 (a:Arj) (b:WY) (k:Aw7 LAe (BU×Bool)):Aw7 LAe (BU×Bool)
 |.c0 e f c g d=>mk (cond (MZ c f) (cond (AwT c d.length) (cond (MZ c (NZ e)) (cond (AsI c e) (cond (0<=(ite ((Aqi d c) > (ite ((ite ((Ic d c)<(Arn e c)) (Ic d c) (Arn e c)) > 0) (ite ((Ic d c)<(Arn e c)) (Ic d c) (Arn e c)) 0)) (Aqi d c) (ite ((ite ((Ic d c)<(Arn e c)) (Ic d c) (Arn e c)) > 0) (ite ((Ic d c)<(Arn e c)) (Ic d c) (Arn e c)) 0))&&(ite ((Aqi d c) > (ite ((ite ((Ic d c)<(Arn e c)) (Ic d c) (Arn e c)) > 0) (ite ((Ic d c)<(Arn e c)) (Ic d c) (Arn e c)) 0)) (Aqi d c) (ite ((ite ((Ic d c)<(Arn e c)) (Ic d c) (Arn e c)) > 0) (ite ((Ic d c)<(Arn e c)) (Ic d c) (Arn e c)) 0))<=(Ic d c)) (k (.c0 e f (Aw6 c) g ((d.set (BN c) (VG (Ib d c) (Ib d c).fText (ite ((Aqi d c) > (ite ((ite ((Ic d c)<(Arn e c)) (Ic d c) (Arn e c)) > 0) (ite ((Ic d c)<(Arn e c)) (Ic d c) (Arn e c)) 0)) (Aqi d c) (ite ((ite ((Ic d c)<(Arn e c)) (Ic d c) (Arn e c)) > 0) (ite ((Ic d c)<(Arn e c)) (Ic d c) (Arn e c)) 0)).toNat)).set (BN c) (⟨(Ib (d.set (BN c) (VG (Ib d c) (Ib d c).fText (ite ((Aqi d c) > (ite ((ite ((Ic d c)<(Arn e c)) (Ic d c) (Arn e c)) > 0) (ite ((Ic d c)<(Arn e c)) (Ic d c) (Arn e c)) 0)) (Aqi d c) (ite ((ite ((Ic d c)<(Arn e c)) (Ic d c) (Arn e c)) > 0) (ite ((Ic d c)<(Arn e c)) (Ic d c) (Arn e c)) 0)).toNat)) c).fName,(Ib (d.set (BN c) (VG (Ib d c) (Ib d c).fText (ite ((Aqi d c) > (ite ((ite ((Ic d c)<(Arn e c)) (Ic d c) (Arn e c)) > 0) (ite ((Ic d c)<(Arn e c)) (Ic d c) (Arn e c)) 0)) (Aqi d c) (ite ((ite ((Ic d c)<(Arn e c)) (Ic d c) (Arn e c)) > 0) (ite ((Ic d c)<(Arn e c)) (Ic d c) (Arn e c)) 0)).toNat)) c).fText,ite ((Aqi d c) > (ite ((ite ((Ic d c)<(Arn e c)) (Ic d c) (Arn e c)) > 0) (ite ((Ic d c)<(Arn e c)) (Ic d c) (Arn e c)) 0)) (Aqi d c) (ite ((ite ((Ic d c)<(Arn e c)) (Ic d c) (Arn e c)) > 0) (ite ((Ic d c)<(Arn e c)) (Ic d c) (Arn e c)) 0)⟩:BQ)))) none) none) (cond (0<=(ite ((Aqi d c) > 0) (Aqi d c) 0)&&(ite ((Aqi d c) > 0) (Aqi d c) 0)<=(Ic d c)) (k (.c0 e f (Aw6 c) g ((d.set (BN c) (VG (Ib d c) (Ib d c).fText (ite ((Aqi d c) > 0) (Aqi d c) 0).toNat)).set (BN c) (⟨(Ib (d.set (BN c) (VG (Ib d c) (Ib d c).fText (ite ((Aqi d c) > 0) (Aqi d c) 0).toNat)) c).fName,(Ib (d.set (BN c) (VG (Ib d c) (Ib d c).fText (ite ((Aqi d c) > 0) (Aqi d c) 0).toNat)) c).fText,ite ((Aqi d c) > 0) (Aqi d c) 0⟩:BQ)))) none)) none) (Qb (⟨d⟩,true)))
def yh:AzH LAe (BU×Bool)
 |0,_=>none
 |m+1,s=>PA8 V4 Uy (yh m) s
def JAp:qU:=OA8 V4 Uy (yh AY)
def ZBf:AwF:=fy u2 JAp AUo jq [VAm,VAa] Tryz.func174 YBf PA8 OA8 yh
def QA8 (e:AwU) (f:VH) (h:qU):eG:=fun g b a i=>mk (Nw (e a 0 (Qi b)) (Qb (IZ,false)) (ArK (GL a (Qi b)) ((f g ((b.take (BN a)).drop 0)).bind fun c=>cond (MZ c.2 a) (Qb (IZ,false)) ((h c.1 i).bind fun d=>Qb (d.1,d.2)))))
def KAp:eG:=QA8 Fv oL JAp
def Akb:AwF:=BI u4 KAp AUp jq [Jp,NA3,ZBf] Tryz.func118 QA8
def RA8 (d:WY) (e:Arr):AsO:=fun b=>(d b.Bc).bind fun a=>e.bind fun c=>some ⟨b.BO,false,a,c,[],[],0⟩
def LAp:AsO:=RA8 Uy Av2
def BBg:AwF:=BI u1 LAp RD U8 [VAa,qV] Tryz.func119 RA8
def MAp (n:XM) (o:eG) (q:AsO) (h:AwE) (j:Aq8) (d:Qj):Yq:=fun a e p=>mk ((n (Arl a) (JD a) e).bind fun f=>(o a.AX.Bc f.1 1 p).bind fun c=>(q a.AX).bind fun b=>cond c.2 ((h c.1 Qw).bind fun g=>(j b.BO g.1).bind fun i=>cond (Ny (AxM i.1) (JD a)) (cond (eH a.CO) (Qn (d ⟨⟨b.BO,b.CZ,c.1,Ar8 b,Md b,ArI b,Fz b⟩,a.Bq,Aw2 a,a.Cm,a.CO++[e]⟩ 10 IK)) none) (Qn (d ⟨⟨b.BO,b.CZ,c.1,Ar8 b,Md b,ArI b,Fz b⟩,a.Bq,Aw2 a,a.Cm,a.CO⟩ 10 IK))) ((h b.Bc Qw).bind fun l=>(j b.BO l.1).bind fun m=>cond (Ny (AxM m.1) (JD a)) (cond (eH a.CO) (Qn (d ⟨b,a.Bq,Aw2 a,a.Cm,a.CO++[e]⟩ 10 IK)) none) (Qn (d ⟨b,a.Bq,Aw2 a,a.Cm,a.CO⟩ 10 IK))))
def Xw:Yq:=MAp yY KAp LAp x9 yG WL
def CBg:AwF:=BI u3 Xw AUt VB [AYf,Akb,BBg,HBH,LBH,PA4] Tryz.func69 MAp [0]
def SA8 (d:WY) (e:Ql):AsO:=fun a=>mk ((d a.Bc).bind fun b=>(e (Ar8 a)).bind fun c=>Ht (LU (He a)) (Ht (LU (L8 a)) (some ⟨a.BO,a.CZ,b,c,Md a,ArI a,Fz a⟩)))
def ny:AsO:=SA8 Uy dw
def DBg:AwF:=BI u1 ny RD U8 [VAa,QA3] Tryz.func121 SA8
inductive NAe where
 |c0 (a b d:Int) (e:AA) (f:Bool) (g:AA) (h i:Int) (j:AA) (l n:Int) (o:(List BQ)) (p:(List Af)) (q:(List EG)) (t:(List CS))
def EBg:NAe->AsN
 |.c0 a b d e f g h i j l n o p q t=>(tdo Tryz.f122 224,[vp 0 0,vi 1 a,vi 2 b,vi 7 d],[(0,.var [.str e,.bool f,.own 1000002,.str g,li h,.own 1000005,li i,.str j,li l,.own 1000009,.own 1000010,li n]),(1000002,.sl 90 o),(1000005,.sl 76 p),(1000009,.sl 127 q),(1000010,.sl 157 t)])
def TA8 (e:JE) (k:Aw7 NAe Ap):BAi:=fun a c d=>mk ((e a c).bind fun b=>cond (JF b) (Ht (AwT b (L8 a)) (some ⟨a.BO,a.CZ,a.Bc,Ar8 a,Md a,(ArI a).set (BN b) (⟨(NK (ArI a) b).fId,d⟩:CS),Fz a⟩)) (k (.c0 c d 0 a.BO a.CZ (Ar8 a).Bv (NM a) (Aqu a) (Tc (Ar8 a)) (Qm a) (Fz a) (Avq a) (DC (Ar8 a)) (Md a) (ArI a))))
def NAp (a:JE) (k:Aw7 NAe Ap):Aw7 NAe Ap
 |.c0 d e b f g h i j l m n o p q c=>mk (cond (Ar5 b c.length) (cond (AwT b c.length) (cond (MZ (NK c b).fId d) (k (.c0 d e (Aw6 b) f g h i j l m n o p q c)) (Ht (GL b (c.length:Int)) (Ht (LU (WZ c b).length) (Ht (LU ((WZ c b).length+1)) (Ht (GL b (c.length:Int)) (Ht (LU (((WZ c b)++[(⟨d,e⟩:CS)]).length+(eP c (BN b) b).length)) (some ⟨f,g,⟨o⟩,⟨h,i,p,j,l,m⟩,q,((WZ c b)++[(⟨d,e⟩:CS)])++(eP c (BN b) b),n⟩))))))) none) (Ht (GL b (c.length:Int)) (Ht (LU (WZ c b).length) (Ht (LU ((WZ c b).length+1)) (Ht (GL b (c.length:Int)) (Ht (LU (((WZ c b)++[(⟨d,e⟩:CS)]).length+(eP c (BN b) b).length)) (some ⟨f,g,⟨o⟩,⟨h,i,p,j,l,m⟩,q,((WZ c b)++[(⟨d,e⟩:CS)])++(eP c (BN b) b),n⟩)))))))
def oD:AzH NAe Ap
 |0,_=>none
 |m+1,s=>NAp YI (oD m) s
def oC:BAi:=TA8 YI (oD AY)
def FBg:AwF:=fy u3 oC Ae8 U8 [FA5] Tryz.func122 EBg NAp TA8 oD [0]
inductive OAe where
 |c0 (ag:Int) (Py:Bool) (a:Ap) (b:CV) (d:AA) (e:Bool) (f:AA) (g h:Int) (i:AA) (j l:Int) (n:AA) (o:Bool) (p:AA) (q t:Int) (u:AA) (v w:Int) (ai:Af) (x:(List BQ)) (y:(List Af)) (aa:(List EG)) (ab:(List CS)) (ac:(List BQ)) (ad:(List Af)) (ae:(List EG)) (af:(List CS))
 |c1 (a:Ap) (b:CV) (d:AA) (e:Bool) (f:AA) (g h:Int) (i:AA) (j l:Int) (n:AA) (o:Bool) (p:AA) (q t:Int) (u:AA) (v w:Int) (x:(List BQ)) (y:(List Af)) (aa:(List EG)) (ab:(List CS)) (ac:(List BQ)) (ad:(List Af)) (ae:(List EG)) (af:(List CS))
def GBg:OAe->AsN
 |.c0 Py ai a b e f g h i j l n o p q t u v w x d y aa ab ac ad ae af ag=>(tdo Tryz.f71 32382,[vi 3 Py,vp 4 256,vp 5 320,vp 8 512,vp 9 576,vp 11 704,vb 12 ai],[(256,.var [.str a.BO,.bool a.CZ,.BG 90 a.Bc.Ak,.str a.AU.Bv,li a.AU.DU,.BG 76 a.AU.AZ,li a.AU.BM,.str a.AU.Dh,li a.AU.fCount,.BG 127 a.BP,.BG 157 a.BD,li a.CW]),(320,.var [li b.Au,li b.EJ,li b.Ag,li b.Aj,.str b.fText,.bool b.CY,.bool b.CX]),(512,.var [.str e,.bool f,.own 1032770,.str g,li h,.own 1032773,li i,.str j,li l,.own 1032777,.own 1032778,li n]),(576,.var [.str o,.bool p,.own 1036866,.str q,li t,.own 1036869,li u,.str v,li w,.own 1036873,.own 1036874,li x]),(704,.var [li d.fId,li d.Aj,.bool d.CY,.bool d.CX,.bool d.Gw,.bool d.GH,.str d.fValue,li d.fNext]),(1032770,.sl 90 y),(1032773,.sl 76 aa),(1032777,.sl 127 ab),(1032778,.sl 157 ac),(1036866,.sl 90 ad),(1036869,.sl 76 ae),(1036873,.sl 127 af),(1036874,.sl 157 ag)])
 |.c1 a b e f g h i j l n o p q t u v w x y aa ab ac ad ae af ag=>(tdo Tryz.f71 129534,[vp 4 256,vp 5 320,vp 8 512,vp 9 576],[(256,.var [.str a.BO,.bool a.CZ,.BG 90 a.Bc.Ak,.str a.AU.Bv,li a.AU.DU,.BG 76 a.AU.AZ,li a.AU.BM,.str a.AU.Dh,li a.AU.fCount,.BG 127 a.BP,.BG 157 a.BD,li a.CW]),(320,.var [li b.Au,li b.EJ,li b.Ag,li b.Aj,.str b.fText,.bool b.CY,.bool b.CX]),(512,.var [.str e,.bool f,.own 1032770,.str g,li h,.own 1032773,li i,.str j,li l,.own 1032777,.own 1032778,li n]),(576,.var [.str o,.bool p,.own 1036866,.str q,li t,.own 1036869,li u,.str v,li w,.own 1036873,.own 1036874,li x]),(1032770,.sl 90 y),(1032773,.sl 76 aa),(1032777,.sl 127 ab),(1032778,.sl 157 ac),(1036866,.sl 90 ad),(1036869,.sl 76 ae),(1036873,.sl 127 af),(1036874,.sl 157 ag)])
def cu (g:AsO) (i:JE) (j:Aqk) (l:BAi) (m:JE) (k:Aw7 OAe Ap):Yr:=fun e c h f=>mk ((g e).bind fun a=>cond (h != 0) (some a) ((i e (AxD c)).bind fun b=>(j (Ar8 e) c.Ag).bind fun d=>cond (c.Au == 1) (Ht (LU ((He a)+1)) (some ⟨a.BO,a.CZ,a.Bc,Ar8 a,(Md a)++[(⟨Aw6 (Fz a),false⟩:EG)],ArI a,Aw6 (Fz a)⟩)) (cond (c.Au == 13) (cond (JF b) (Ht (GL b (He a:Int)) (Ht (GL (Aw6 b) (He a:Int)) (Ht (0<(He a)&&(((BN b) - 0)+(((Md a).drop (Ol b)).take ((He a) - (Ol b))).length)<=(He a)) (some ⟨a.BO,a.CZ,a.Bc,Ar8 a,((Md a).take ((BN b) - 0))++(((Md a).drop (Ol b)).take ((He a) - (Ol b))),ArI a,Fz a⟩)))) (cond (c.Au == 2) (cond (JF b) (Ht (AwT b (He a)) (some ⟨a.BO,a.CZ,a.Bc,Ar8 a,(Md a).set (BN b) (⟨(Arb (Md a) b ⟨0,false⟩).fId,true⟩:EG),ArI a,Fz a⟩)) (k (.c0 f d.2 e c IK false IK 0 0 IK 0 0 a.BO a.CZ (Ar8 a).Bv (NM a) (Aqu a) (Tc (Ar8 a)) (Qm a) (Fz a) d.1 [] [] [] [] (Avq a) (DC (Ar8 a)) (Md a) (ArI a)))) (k (.c0 f d.2 e c IK false IK 0 0 IK 0 0 a.BO a.CZ (Ar8 a).Bv (NM a) (Aqu a) (Tc (Ar8 a)) (Qm a) (Fz a) d.1 [] [] [] [] (Avq a) (DC (Ar8 a)) (Md a) (ArI a))))) (cond (c.Au == 2) (cond (JF b) (Ht (AwT b (He a)) (some ⟨a.BO,a.CZ,a.Bc,Ar8 a,(Md a).set (BN b) (⟨(Arb (Md a) b ⟨0,false⟩).fId,true⟩:EG),ArI a,Fz a⟩)) (k (.c0 f d.2 e c IK false IK 0 0 IK 0 0 a.BO a.CZ (Ar8 a).Bv (NM a) (Aqu a) (Tc (Ar8 a)) (Qm a) (Fz a) d.1 [] [] [] [] (Avq a) (DC (Ar8 a)) (Md a) (ArI a)))) (k (.c0 f d.2 e c IK false IK 0 0 IK 0 0 a.BO a.CZ (Ar8 a).Bv (NM a) (Aqu a) (Tc (Ar8 a)) (Qm a) (Fz a) d.1 [] [] [] [] (Avq a) (DC (Ar8 a)) (Md a) (ArI a)))))))
def OAp (a:AsO) (b:JE) (c:Aqk) (d:BAi) (e:JE) (k:Aw7 OAe Ap):Aw7 OAe Ap
 |.c0 H J t f u v w x y z A B g h j l n o p s G C D E F i m q r=>mk (cond (f.Au == 5) (cond J (cond ((Jb G) == 2) (cond (JF H) (cond (MZ H G.fNext) ((d ⟨g,h,⟨i⟩,⟨j,l,m,n,o,p⟩,q,r,s⟩ G.fId (Aw6 H)).bind fun I=>some I) (k (.c1 t f u v w x y z A B g h j l n o p s C D E F i m q r))) (k (.c1 t f u v w x y z A B g h j l n o p s C D E F i m q r))) (k (.c1 t f u v w x y z A B g h j l n o p s C D E F i m q r))) (k (.c1 t f u v w x y z A B g h j l n o p s C D E F i m q r))) (k (.c1 t f u v w x y z A B g h j l n o p s C D E F i m q r)))
 |.c1 u t _ _ _ _ _ _ _ _ h i l m o p q s _ _ _ _ j n r g=>mk (cond (t.Au == 9) ((e u t.Ag).bind fun f=>cond (JF f) (Ht (GL f (g.length:Int)) (Ht (GL (Aw6 f) (g.length:Int)) (Ht (0<g.length&&(((BN f) - 0)+(eP g (Ol f) (Aw6 f)).length)<=g.length) (some ⟨h,i,⟨j⟩,⟨l,m,n,o,p,q⟩,r,(g.take ((BN f) - 0))++(eP g (Ol f) (Aw6 f)),s⟩)))) (some ⟨h,i,⟨j⟩,⟨l,m,n,o,p,q⟩,r,g,s⟩)) (some ⟨h,i,⟨j⟩,⟨l,m,n,o,p,q⟩,r,g,s⟩))
def dD:AzH OAe Ap
 |0,_=>none
 |m+1,s=>OAp ny nJ Qx oC YI (dD m) s
def Aq2:Yr:=cu ny nJ Qx oC YI (dD AY)
def HBg:AwF:=fy u4 Aq2 AUu U8 [DBg,VBH,TAb,FBg,FA5] Tryz.func71 GBg OAp cu dD
inductive PAe where
 |c0 (a b:Int) (d:AA) (e f g:Int) (h:AA) (i:Bool) (j:AA) (l n:Int) (o:AA) (p q:Int) (t:DW) (u:(List Ah)) (v:(List BQ)) (w:(List Af)) (x:(List EG)) (y:(List CS)) (aa:(List Int)) (ab:(List AA)) (ac:(List D8)) (ad:(List Ah))
def IBg:PAe->AsN
 |.c0 b d e f g h i j l n o p q t a u v w x y aa ab ac ad=>(tdo Tryz.f32 1000,[vp 0 0,vi 2 b,vp 4 256,vi 7 d,vs 8 e,vi 9 f,vo 45 2928,vi 46 g,vi 47 h],[(0,.var [.str i,.bool j,.own 1000002,.str l,li n,.own 1000005,li o,.str p,li q,.own 1000009,.own 1000010,li t,.own 1000012,.own 1000013,.own 1000014,.own 1000015]),(256,.var [li a.BA.Au,li a.BA.EJ,li a.BA.Ag,li a.BA.Aj,.str a.BA.fText,.bool a.BA.CY,.bool a.BA.CX,.bool a.Nr,.BG 3 a.Lc,.bool a.JY]),(2928,.sl 78 u),(1000002,.sl 90 v),(1000005,.sl 76 w),(1000009,.sl 127 x),(1000010,.sl 157 y),(1000012,.sl 3 aa),(1000013,.sl 9 ab),(1000014,.sl 48 ac),(1000015,.sl 78 ad)])
def tN (h:AsE) (i:Yq) (e:JE) (j:LAU) (l:Yr) (m:Qj) (k:Aw7 PAe Bg):CAi:=fun a c f=>mk ((h a.AX c.BA).bind fun b=>cond c.Nr (cond (Arf (AxM b.1)) (cond (VI Qa (AxM b.1)) (Qn (i a (b.1.getD (BN Qa) (⟨0,IK,0,⟨0,0,false,false,false,false,IK,0⟩⟩:Ah)) c.Lc)) none) ((e a.AX c.BA.Ag).bind fun d=>k (.c0 f b.2.1 b.2.2 d (AxM b.1) 0 (Arl a) (Js a) (L9 a) (MC a) (MF a) (MG a) (JD a) (MH a) c b.1 (Nz a) (N7 a) (Qs a) (N9 a) a.Bq (Aw2 a) a.Cm a.CO))) ((e a.AX c.BA.Ag).bind fun g=>k (.c0 f b.2.1 b.2.2 g (AxM b.1) 0 (Arl a) (Js a) (L9 a) (MC a) (MF a) (MG a) (JD a) (MH a) c b.1 (Nz a) (N7 a) (Qs a) (N9 a) a.Bq (Aw2 a) a.Cm a.CO)))
def tV (a:AsE) (b:Yq) (c:JE) (d:LAU) (e:Yr) (f:Qj) (k:Aw7 PAe Bg):Aw7 PAe Bg
 |.c0 q l r o p i v w y z B C D G m j x A E F s t u n=>mk (cond (MZ i p) (cond (AwT i j.length) ((d ⟨v,w,⟨x⟩,⟨y,z,A,B,C,D⟩,E,F,G⟩ (AwP j i IK ⟨0,0,false,false,false,false,IK,0⟩)).bind fun g=>cond g.1 (cond (eH n) (k (.c0 q l r o p (Aw6 i) g.2.BO g.2.CZ (Ar8 g.2).Bv (NM g.2) (Aqu g.2) (Tc (Ar8 g.2)) (Qm g.2) (Fz g.2) m j (Avq g.2) (DC (Ar8 g.2)) (Md g.2) (ArI g.2) s t u (n++[AwP j i IK ⟨0,0,false,false,false,false,IK,0⟩]))) none) (k (.c0 q l r o p (Aw6 i) g.2.BO g.2.CZ (Ar8 g.2).Bv (NM g.2) (Aqu g.2) (Tc (Ar8 g.2)) (Qm g.2) (Fz g.2) m j (Avq g.2) (DC (Ar8 g.2)) (Md g.2) (ArI g.2) s t u n))) none) ((e ⟨v,w,⟨x⟩,⟨y,z,A,B,C,D⟩,E,F,G⟩ m.BA l o).bind fun H=>(f ⟨H,s,t,u,n⟩ l r).bind fun h=>cond (m.BA.Au == 5) (cond (EF l) (cond (Ej ((h.Cm.length+1)*24)) (some ⟨h.AX,h.Bq,Aw2 h,h.Cm++[(⟨m.BA.Ag,o,q⟩:D8)],h.CO⟩) none) (some h)) (some h)))
def Zn:AzH PAe Bg
 |0,_=>none
 |m+1,s=>tV Avi Xw ArG Vx Aq2 WL (Zn m) s
def Ar0:CAi:=tN Avi Xw ArG Vx Aq2 WL (Zn AY)
def JBg:AwF:=fy u3 Ar0 Ae9 VB [XBf,CBg,BBI,EBH,HBg,PA4] Tryz.func32 IBg tV tN Zn [0]
inductive SAe where
 |c0 (v:AA) (w x:(List DW)) (y aa:Int) (a:AA) (b:Bool) (d:AA) (e f:Int) (g:AA) (h i:Int) (ab:AA) (ac:Bool) (ad:AA) (ae af:Int) (ag:AA) (Py ai:Int) (j:(List BQ)) (l:(List Af)) (n:(List EG)) (o:(List CS)) (p:(List Int)) (q:(List AA)) (t:(List D8)) (u:(List Ah)) (AwB:(List BQ)) (ZO:(List Af)) (al:(List EG)) (am:(List CS))
 |c1 (an:(List DW)) (ao ap:Int) (a:AA) (b:Bool) (d:AA) (e f:Int) (g:AA) (h i:Int) (aq:AA) (ar:Bool) (Aao:AA) (av aw:Int) (ax:AA) (Avt az:Int) (j:(List BQ)) (l:(List Af)) (n:(List EG)) (o:(List CS)) (p:(List Int)) (q:(List AA)) (t:(List D8)) (u:(List Ah)) (a0:(List BQ)) (a1:(List Af)) (a2:(List EG)) (a3:(List CS)) (a4:(List Int)) (a5:(List AA)) (a6:(List D8)) (a7:(List Ah))
def KBg:SAe->AsN
 |.c0 v w x y aa a b d e f g h i ab ac ad ae af ag Py ai j l n o p q t u AwB ZO al am=>(tdo Tryz.f8 488,[vs 1 v,vr 2 72 w,vp 6 384,vp 8 512,vr 29 72 x,vi 30 y,vi 31 aa],[(384,.var [.str a,.bool b,.own 1024578,.str d,li e,.own 1024581,li f,.str g,li h,.own 1024585,.own 1024586,li i,.own 1024588,.own 1024589,.own 1024590,.own 1024591]),(512,.var [.str ab,.bool ac,.own 1032770,.str ad,li ae,.own 1032773,li af,.str ag,li Py,.own 1032777,.own 1032778,li ai]),(1024578,.sl 90 j),(1024581,.sl 76 l),(1024585,.sl 127 n),(1024586,.sl 157 o),(1024588,.sl 3 p),(1024589,.sl 9 q),(1024590,.sl 48 t),(1024591,.sl 78 u),(1032770,.sl 90 AwB),(1032773,.sl 76 ZO),(1032777,.sl 127 al),(1032778,.sl 157 am)])
 |.c1 an ao ap a b d e f g h i aq ar Aao av aw ax Avt az j l n o p q t u a0 a1 a2 a3 a4 a5 a6 a7=>(tdo Tryz.f8 2024,[vp 6 384,vp 12 768,vr 46 72 an,vi 47 ao,vi 48 ap],[(384,.var [.str a,.bool b,.own 1024578,.str d,li e,.own 1024581,li f,.str g,li h,.own 1024585,.own 1024586,li i,.own 1024588,.own 1024589,.own 1024590,.own 1024591]),(768,.var [.str aq,.bool ar,.own 1049154,.str Aao,li av,.own 1049157,li aw,.str ax,li Avt,.own 1049161,.own 1049162,li az,.own 1049164,.own 1049165,.own 1049166,.own 1049167]),(1024578,.sl 90 j),(1024581,.sl 76 l),(1024585,.sl 127 n),(1024586,.sl 157 o),(1024588,.sl 3 p),(1024589,.sl 9 q),(1024590,.sl 48 t),(1024591,.sl 78 u),(1049154,.sl 90 a0),(1049157,.sl 76 a1),(1049161,.sl 127 a2),(1049162,.sl 157 a3),(1049164,.sl 3 a4),(1049165,.sl 9 a5),(1049166,.sl 48 a6),(1049167,.sl 78 a7)])
def UA8 (d:eU) (f:Yt) (g:RZ) (h:XAh) (i:CAi) (k:Aw7 SAe (Bg×Bool)):MAU:=fun e c b=>mk ((d e c).bind fun a=>cond (!a.2) (some (⟨⟨IK,false,IZ,Mc,[],[],0⟩,[],[],[],[]⟩,false)) (cond ((b.length:Int) > 40) (some (⟨⟨IK,false,IZ,Mc,[],[],0⟩,[],[],[],[]⟩,false)) (k (.c0 c b b (b.length:Int) 0 IK false IK 0 0 IK 0 0 a.1.BO a.1.CZ (Ar8 a.1).Bv (NM a.1) (Aqu a.1) (Tc (Ar8 a.1)) (Qm a.1) (Fz a.1) [] [] [] [] [] [] [] [] (Avq a.1) (DC (Ar8 a.1)) (Md a.1) (ArI a.1)))))
def lN (a:eU) (b:Yt) (c:RZ) (d:XAh) (e:CAi) (k:Aw7 SAe (Bg×Bool)):Aw7 SAe (Bg×Bool)
 |.c0 l h g i f m n o p q r s t u v w x y z A B C D E F G H I J L M N O=>mk (cond (MZ f i) (cond (AwT f g.length) ((b (g.getD (BN f) (⟨⟨0,0,0,0,IK,false,false⟩,false,[],false⟩:DW))).bind fun j=>cond (!j) (some (⟨⟨IK,false,IZ,Mc,[],[],0⟩,[],[],[],[]⟩,false)) (k (.c0 l h g i (Aw6 f) m n o p q r s t u v w x y z A B C D E F G H I J L M N O))) none) ((c l).bind fun P=>k (.c1 h (h.length:Int) 0 m n o p q r s t u v w x y z A B C D E F G H I J L M N O [] [] [] [⟨1,P,0,⟨0,0,false,false,false,false,IK,0⟩⟩])))
 |.c1 i j h B C D E F G H I l m o p r s t w J L M N O P Q R n q u v x y z A=>mk (cond (MZ h j) (cond (AwT h i.length) (cond (i.getD (BN h) (⟨⟨0,0,0,0,IK,false,false⟩,false,[],false⟩:DW)).JY ((d ⟨⟨l,m,⟨n⟩,⟨o,p,q,r,s,t⟩,u,v,w⟩,x,y,z,A⟩).bind fun f=>k (.c1 i j (Aw6 h) B C D E F G H I (Arl f) (Js f) (L9 f) (MC f) (MF f) (MG f) (JD f) (MH f) J L M N O P Q R (Nz f) (N7 f) (Qs f) (N9 f) f.Bq (Aw2 f) f.Cm f.CO)) ((e ⟨⟨l,m,⟨n⟩,⟨o,p,q,r,s,t⟩,u,v,w⟩,x,y,z,A⟩ (i.getD (BN h) (⟨⟨0,0,0,0,IK,false,false⟩,false,[],false⟩:DW)) h).bind fun g=>k (.c1 i j (Aw6 h) B C D E F G H I (Arl g) (Js g) (L9 g) (MC g) (MF g) (MG g) (JD g) (MH g) J L M N O P Q R (Nz g) (N7 g) (Qs g) (N9 g) g.Bq (Aw2 g) g.Cm g.CO))) none) (some (⟨⟨l,m,⟨n⟩,⟨o,p,q,r,s,t⟩,u,v,w⟩,x,y,z,A⟩,true)))
def Vy:AzH SAe (Bg×Bool)
 |0,_=>none
 |m+1,s=>lN xY xk JQ X0 Ar0 (Vy m) s
def xq:MAU:=UA8 xY xk JQ X0 Ar0 (Vy AY)
def LBg:AwF:=fy u3 xq AU4 AKq [FBb,GBb,RU,VBb,JBg] Tryz.func8 KBg lN UA8 Vy
def VA8 (b:AwU):Wh:=fun a=>mk (Aqs (b a.Au 1 13) (Aqs (b (AxD a) 0 1000) (Aqs (b a.Ag 0 1000) (Aqs (b a.Aj 0 3) (some (decide ((BF a.fText)<=1000))) (some false)) (some false)) (some false)) (some false))
def PAp:Wh:=VA8 Je
def MBg:AwF:=BI u1 PAp AKm E8 [JV] Tryz.func74 VA8
def AYl:Wh:=fun a=>mk (some ((EF a.Au) && ((EF (AxD a)) && ((EF a.Ag) && ((EF a.Aj) && ((EU a.fText IK) && ((a.CY == false) && ((a.CX == false) && true))))))))
def WA8:Wh:=AYl
def NBg:AwF:=BI u1 WA8 AKm E8 [] Tryz.func75 AYl
def XA8 (b c:Wh):Yt:=fun a=>mk (Aws ((NZ a.Lc)<=30) (Aqs (b a.BA) (some true) (Aws a.JY (Aqr (c a.BA)) (some false))) (some false))
def yU:Yt:=XA8 PAp WA8
def OBg:AwF:=BI u1 yU AU1 E8 [MBg,NBg] Tryz.func34 XA8
inductive lU where
 |c0 (a:(List DW)) (an:Bool) (ao:Int) (b:AA) (d:Bool) (e:AA) (f g:Int) (h:AA) (i j:Int) (l:AA) (n:Bool) (o:AA) (p q:Int) (t:AA) (u v:Int) (w:(List BQ)) (x:(List Af)) (y:(List EG)) (aa:(List CS)) (ab:(List Int)) (ac:(List AA)) (ad:(List D8)) (ae:(List Ah)) (af:(List BQ)) (ag:(List Af)) (Py:(List EG)) (ai:(List CS)) (AwB:(List Int)) (ZO:(List AA)) (al:(List D8)) (am:(List Ah))
 |c1 (a:(List DW)) (ap:Int) (b:AA) (d:Bool) (e:AA) (f g:Int) (h:AA) (i j:Int) (l:AA) (n:Bool) (o:AA) (p q:Int) (t:AA) (u v:Int) (w:(List BQ)) (x:(List Af)) (y:(List EG)) (aa:(List CS)) (ab:(List Int)) (ac:(List AA)) (ad:(List D8)) (ae:(List Ah)) (af:(List BQ)) (ag:(List Af)) (Py:(List EG)) (ai:(List CS)) (AwB:(List Int)) (ZO:(List AA)) (al:(List D8)) (am:(List Ah))
def PBg:lU->AsN
 |.c0 a an ao b d e f g h i j l n o p q t u v w x y aa ab ac ad ae af ag Py ai AwB ZO al am=>(tdo Tryz.f9 464,[vr 2 72 a,vp 6 384,vp 8 512,vb 9 an,vi 10 ao],[(384,.var [.str b,.bool d,.own 1024578,.str e,li f,.own 1024581,li g,.str h,li i,.own 1024585,.own 1024586,li j,.own 1024588,.own 1024589,.own 1024590,.own 1024591]),(512,.var [.str l,.bool n,.own 1032770,.str o,li p,.own 1032773,li q,.str t,li u,.own 1032777,.own 1032778,li v,.own 1032780,.own 1032781,.own 1032782,.own 1032783]),(1024578,.sl 90 w),(1024581,.sl 76 x),(1024585,.sl 127 y),(1024586,.sl 157 aa),(1024588,.sl 3 ab),(1024589,.sl 9 ac),(1024590,.sl 48 ad),(1024591,.sl 78 ae),(1032770,.sl 90 af),(1032773,.sl 76 ag),(1032777,.sl 127 Py),(1032778,.sl 157 ai),(1032780,.sl 3 AwB),(1032781,.sl 9 ZO),(1032782,.sl 48 al),(1032783,.sl 78 am)])
 |.c1 a ap b d e f g h i j l n o p q t u v w x y aa ab ac ad ae af ag Py ai AwB ZO al am=>(tdo Tryz.f9 2000,[vr 2 72 a,vp 6 384,vp 8 512,vi 11 ap],[(384,.var [.str b,.bool d,.own 1024578,.str e,li f,.own 1024581,li g,.str h,li i,.own 1024585,.own 1024586,li j,.own 1024588,.own 1024589,.own 1024590,.own 1024591]),(512,.var [.str l,.bool n,.own 1032770,.str o,li p,.own 1032773,li q,.str t,li u,.own 1032777,.own 1032778,li v,.own 1032780,.own 1032781,.own 1032782,.own 1032783]),(1024578,.sl 90 w),(1024581,.sl 76 x),(1024585,.sl 127 y),(1024586,.sl 157 aa),(1024588,.sl 3 ab),(1024589,.sl 9 ac),(1024590,.sl 48 ad),(1024591,.sl 78 ae),(1032770,.sl 90 af),(1032773,.sl 76 ag),(1032777,.sl 127 Py),(1032778,.sl 157 ai),(1032780,.sl 3 AwB),(1032781,.sl 9 ZO),(1032782,.sl 48 al),(1032783,.sl 78 am)])
def YA8 (b:qW) (f:Yt) (g:Aqm) (h:AsO) (k:Aw7 lU (Bg×Bool)):MAU:=fun c d e=>mk ((b c d).bind fun a=>k (.c0 e a.2 0 IK false IK 0 0 IK 0 0 (Arl a.1) (Js a.1) (L9 a.1) (MC a.1) (MF a.1) (MG a.1) (JD a.1) (MH a.1) [] [] [] [] [] [] [] [] (Nz a.1) (N7 a.1) (Qs a.1) (N9 a.1) a.1.Bq (Aw2 a.1) a.1.Cm a.1.CO))
def lQ (a:qW) (b:Yt) (c:Aqm) (d:AsO) (k:Aw7 lU (Bg×Bool)):Aw7 lU (Bg×Bool)
 |.c0 e O f g h i j l m n o p q r s t u v w x y z A B C D E F G H I J L M N=>mk (cond (Ar5 f e.length) (cond O (cond ((e.length:Int)<=40) (cond (AwT f e.length) ((b (e.getD (BN f) (⟨⟨0,0,0,0,IK,false,false⟩,false,[],false⟩:DW))).bind fun P=>k (.c0 e P (Aw6 f) g h i j l m n o p q r s t u v w x y z A B C D E F G H I J L M N)) none) (k (.c0 e false (Aw6 f) g h i j l m n o p q r s t u v w x y z A B C D E F G H I J L M N))) (cond (!O) (some (⟨⟨IK,false,IZ,Mc,[],[],0⟩,[],[],[],[]⟩,false)) (k (.c1 e 0 g h i j l m n o p q r s t u v w x y z A B C D E F G H I J L M N)))) (cond (!O) (some (⟨⟨IK,false,IZ,Mc,[],[],0⟩,[],[],[],[]⟩,false)) (k (.c1 e 0 g h i j l m n o p q r s t u v w x y z A B C D E F G H I J L M N))))
 |.c1 g f z A B C D E F G h i l m o p q t H I J L M N O P j n r s u v w x=>mk (cond (Ar5 f g.length) (cond (AwT f g.length) ((c ⟨⟨h,i,⟨j⟩,⟨l,m,n,o,p,q⟩,r,s,t⟩,u,v,w,x⟩ f (g.getD (BN f) (⟨⟨0,0,0,0,IK,false,false⟩,false,[],false⟩:DW))).bind fun e=>k (.c1 g (Aw6 f) z A B C D E F G (Arl e) (Js e) (L9 e) (MC e) (MF e) (MG e) (JD e) (MH e) H I J L M N O P (Nz e) (N7 e) (Qs e) (N9 e) e.Bq (Aw2 e) e.Cm e.CO)) none) ((d ⟨h,i,⟨j⟩,⟨l,m,n,o,p,q⟩,r,s,t⟩).bind fun y=>some (⟨y,u,v,w,x⟩,true)))
def Vz:AzH lU (Bg×Bool)
 |0,_=>none
 |m+1,s=>lQ aV yU RH Xx (Vz m) s
def lS:MAU:=YA8 aV yU RH Xx (Vz AY)
def QBg:AwF:=fy u3 lS AU4 AKq [ZBE,OBg,NBG,KBG] Tryz.func9 PBg lQ YA8 Vz
inductive VAe where
 |c0 (a b:(List Ah)) (d:Int)
def RBg:VAe->AsN
 |.c0 a b d=>(tdo Tryz.f16 464,[vr 0 78 a,vr 1 78 b,vi 5 d],[])
def ZA8 (k:Aw7 VAe Bool):MAu:=fun a b=>mk (cond ((AxM a) != (AxM b)) (some false) (k (.c0 a b 0)))
def QAp (k:Aw7 VAe Bool):Aw7 VAe Bool
 |.c0 b c a=>mk (cond (Ar5 a b.length) (cond (AwT a b.length) (cond (AwT a c.length) (cond (!(((AwP b a IK ⟨0,0,false,false,false,false,IK,0⟩).Aj == (AwP c a IK ⟨0,0,false,false,false,false,IK,0⟩).Aj) && ((EU (AwP b a IK ⟨0,0,false,false,false,false,IK,0⟩).fText (AwP c a IK ⟨0,0,false,false,false,false,IK,0⟩).fText) && (((AwP b a IK ⟨0,0,false,false,false,false,IK,0⟩).DR == (AwP c a IK ⟨0,0,false,false,false,false,IK,0⟩).DR) && ((((ArS (AwP b a IK ⟨0,0,false,false,false,false,IK,0⟩)).fId == (ArS (AwP c a IK ⟨0,0,false,false,false,false,IK,0⟩)).fId) && (((Jb (ArS (AwP b a IK ⟨0,0,false,false,false,false,IK,0⟩))) == (Jb (ArS (AwP c a IK ⟨0,0,false,false,false,false,IK,0⟩)))) && (((AqY (ArS (AwP b a IK ⟨0,0,false,false,false,false,IK,0⟩))) == (AqY (ArS (AwP c a IK ⟨0,0,false,false,false,false,IK,0⟩)))) && (((Em (ArS (AwP b a IK ⟨0,0,false,false,false,false,IK,0⟩))) == (Em (ArS (AwP c a IK ⟨0,0,false,false,false,false,IK,0⟩)))) && (((FK (ArS (AwP b a IK ⟨0,0,false,false,false,false,IK,0⟩))) == (FK (ArS (AwP c a IK ⟨0,0,false,false,false,false,IK,0⟩)))) && (((Ari (ArS (AwP b a IK ⟨0,0,false,false,false,false,IK,0⟩))) == (Ari (ArS (AwP c a IK ⟨0,0,false,false,false,false,IK,0⟩)))) && ((EU (Aqz (ArS (AwP b a IK ⟨0,0,false,false,false,false,IK,0⟩))) (Aqz (ArS (AwP c a IK ⟨0,0,false,false,false,false,IK,0⟩)))) && (((ArS (AwP b a IK ⟨0,0,false,false,false,false,IK,0⟩)).fNext == (ArS (AwP c a IK ⟨0,0,false,false,false,false,IK,0⟩)).fNext) && true)))))))) && true))))) (some false) (k (.c0 b c (Aw6 a)))) none) none) (some true))
def lV:AzH VAe Bool
 |0,_=>none
 |m+1,s=>QAp (lV m) s
def RAp:MAu:=ZA8 (lV AY)
def SBg:AwF:=fy u2 RAp AfC E8 [] Tryz.func16 RBg QAp ZA8 lV
inductive lX where
 |c0 (a:Int) (b d:BU)
def TBg:lX->AsN
 |.c0 a b d=>(tdo Tryz.f19 464,[vp 2 128,vp 3 192,vi 5 a],[(128,.var [.BG 90 b.Ak]),(192,.var [.BG 90 d.Ak])])
def AMx (k:Aw7 lX Bool):NAu:=fun a b=>mk (cond ((AxK a:Int) != (AxK b:Int)) (some false) (k (.c0 0 a b)))
def SAp (k:Aw7 lX Bool):Aw7 lX Bool
 |.c0 a b c=>mk (cond (Ar5 a (AxK b)) (cond (Jt a b) (cond (Jt a c) (cond (!((EU (Aqt b a).fName (Aqt c a).fName) && ((EU (Uj b a) (Uj c a)) && (((Jc b a) == (Jc c a)) && true)))) (some false) (k (.c0 (Aw6 a) b c))) none) none) (some true))
def lW:AzH lX Bool
 |0,_=>none
 |m+1,s=>SAp (lW m) s
def TAp:NAu:=AMx (lW AY)
def UBg:AwF:=fy u2 TAp AvO E8 [] Tryz.func19 TBg SAp AMx lW
def BA9 (f:Arr) (g:Yu) (e:VJ) (h:RV):NAU:=fun a=>mk (f.bind fun d=>(g d a.CO).bind fun b=>Aws (!b.2) (some false) (Aws (Js a) (Aqr (e b.1 (Wi a))) ((h (Arl a) a.AX.Bc).bind fun c=>Aws c.2.2 (Aqr (e b.1 c.1)) (some false))))
def UAp:NAU:=BA9 Av2 yH mD bf
def VBg:AwF:=BI u1 UAp AEg E8 [qV,MBH,GBH,JA4] Tryz.func20 BA9
def CA9 (f:Arr) (g:Yu) (e:VJ) (h:RV):NAU:=fun a=>mk (f.bind fun d=>(g d a.CO).bind fun b=>Aws (!b.2) (some false) (Aws (Js a) (Aqr (e b.1 (Wi a))) ((h (Arl a) a.AX.Bc).bind fun c=>Aws c.2.2 (Aqr (e b.1 c.1)) (some false))))
def VAp:NAU:=CA9 RI xQ lG aP
def WBg:AwF:=BI u1 VAp AEg E8 [eX,MBG,LBG,SA1] Tryz.func21 CA9
inductive WAe where
 |c0 (a:(List Ah)) (b d:Int) (e:AA) (f g:Int) (h:AA) (i:Int) (j:(List Af))
 |c1 (a:(List Ah)) (b d:Int) (l n:Int) (e:AA) (f g:Int) (h:AA) (i:Int) (o:AA) (p q:Int) (t:AA) (u:Int) (v w:(List Af))
def XBg:WAe->AsN
 |.c0 a b d e f g h i j=>(tdo Tryz.f22 232,[vp 3 192,vr 13 78 a,vi 14 b,vi 15 d],[(192,.var [.str e,li f,.own 1012290,li g,.str h,li i]),(1012290,.sl 76 j)])
 |.c1 a b d l n e f g h i o p q t u v w=>(tdo Tryz.f22 478440,[vp 3 192,vp 6 384,vr 13 78 a,vi 14 b,vi 15 d,vo 28 1840,vi 29 l,vi 30 n],[(192,.var [.str e,li f,.own 1840,li g,.str h,li i]),(384,.var [.str o,li p,.own 1024578,li q,.str t,li u]),(1840,.sl 76 v),(1024578,.sl 76 w)])
def DA9 (c:Arr) (d:Qr) (e:Aqk) (k:Aw7 WAe Bool):OAU:=fun b=>mk (c.bind fun a=>k (.c0 b (AxM b) 0 a.Bv a.DU a.BM (Tc a) a.fCount (DC a)))
def lY (a:Arr) (b:Qr) (c:Aqk) (k:Aw7 WAe Bool):Aw7 WAe Bool
 |.c0 f h e i j l m n g=>mk (cond (MZ e h) (cond (AwT e f.length) ((b ⟨i,j,g,l,m,n⟩ (AwP f e IK ⟨0,0,false,false,false,false,IK,0⟩)).bind fun d=>cond (!d.2) (some false) (k (.c1 f h e (g.length:Int) 0 i j l m n d.1.Bv d.1.DU d.1.BM (Tc d.1) d.1.fCount g (DC d.1)))) none) (some true))
 |.c1 o p q n d r s t u v g h j l m e i=>mk (cond (MZ d n) (cond (AwT d e.length) ((c ⟨g,h,i,j,l,m⟩ (Eb e d ⟨0,0,false,false,false,false,IK,0⟩).fId).bind fun f=>cond f.2 (cond ((Jb f.1) != (Jb (Eb e d ⟨0,0,false,false,false,false,IK,0⟩))) (some false) (cond (!(EU (Aqz f.1) (Aqz (Eb e d ⟨0,0,false,false,false,false,IK,0⟩)))) (some false) (cond (AqY (Eb e d ⟨0,0,false,false,false,false,IK,0⟩)) (cond (!(AqY f.1)) (some false) (cond (Em (Eb e d ⟨0,0,false,false,false,false,IK,0⟩)) (cond (!(Em f.1)) (some false) (cond (Wx f e d ⟨0,0,false,false,false,false,IK,0⟩) (some false) (k (.c1 o p q n (Aw6 d) r s t u v g h j l m e i)))) (cond (Wx f e d ⟨0,0,false,false,false,false,IK,0⟩) (some false) (k (.c1 o p q n (Aw6 d) r s t u v g h j l m e i))))) (cond (Em (Eb e d ⟨0,0,false,false,false,false,IK,0⟩)) (cond (!(Em f.1)) (some false) (cond (Wx f e d ⟨0,0,false,false,false,false,IK,0⟩) (some false) (k (.c1 o p q n (Aw6 d) r s t u v g h j l m e i)))) (cond (Wx f e d ⟨0,0,false,false,false,false,IK,0⟩) (some false) (k (.c1 o p q n (Aw6 d) r s t u v g h j l m e i))))))) (k (.c1 o p q n (Aw6 d) r s t u v g h j l m e i))) none) (k (.c0 o p (Aw6 q) g h j l m i)))
def ArL:AzH WAe Bool
 |0,_=>none
 |m+1,s=>lY Av2 Yp Qx (ArL m) s
def WAp:OAU:=DA9 Av2 Yp Qx (ArL AY)
def YBg:AwF:=fy u1 WAp AU6 E8 [qV,VA3,TAb] Tryz.func22 XBg lY DA9 ArL
inductive XAe where
 |c0 (a:(List Ah)) (b:Int) (d:AA) (e f:Int) (g:AA) (h:Int) (i:(List Af))
 |c1 (a:(List Ah)) (b j:Int) (d:AA) (e f:Int) (g:AA) (h:Int) (l:AA) (n o:Int) (p:AA) (q:Int) (i t:(List Af))
def ZBg:XAe->AsN
 |.c0 a b d e f g h i=>(tdo Tryz.f23 464,[vr 0 78 a,vp 3 192,vi 4 b],[(192,.var [.str d,li e,.own 1012290,li f,.str g,li h]),(1012290,.sl 76 i)])
 |.c1 a b j d e f g h l n o p q i t=>(tdo Tryz.f23 238800,[vr 0 78 a,vp 3 192,vi 4 b,vp 5 320,vi 7 j],[(192,.var [.str d,li e,.own 1012290,li f,.str g,li h]),(320,.var [.str l,li n,.own 1020482,li o,.str p,li q]),(1012290,.sl 76 i),(1020482,.sl 76 t)])
def EA9 (b:Arr) (d:Qr) (e:Aqk) (k:Aw7 XAe Bool):OAU:=fun c=>mk (b.bind fun a=>k (.c0 c 0 a.Bv a.DU a.BM (Tc a) a.fCount (DC a)))
def lZ (a:Arr) (b:Qr) (c:Aqk) (k:Aw7 XAe Bool):Aw7 XAe Bool
 |.c0 f e g h j l m i=>mk (cond (Ar5 e f.length) (cond (AwT e f.length) ((b ⟨g,h,i,j,l,m⟩ (AwP f e IK ⟨0,0,false,false,false,false,IK,0⟩)).bind fun d=>cond (!d.2) (some false) (k (.c1 f e 0 g h j l m d.1.Bv d.1.DU d.1.BM (Tc d.1) d.1.fCount i (DC d.1)))) none) (some true))
 |.c1 n o d p q r s t g h j l m e i=>mk (cond (Ar5 d e.length) (cond (AwT d e.length) ((c ⟨g,h,i,j,l,m⟩ (Eb e d ⟨0,0,false,false,false,false,IK,0⟩).fId).bind fun f=>cond f.2 (cond ((Jb (Eb e d ⟨0,0,false,false,false,false,IK,0⟩)) != (Jb f.1)) (some false) (cond (!(EU (Aqz (Eb e d ⟨0,0,false,false,false,false,IK,0⟩)) (Aqz f.1))) (some false) (cond (AqY (Eb e d ⟨0,0,false,false,false,false,IK,0⟩)) (cond (!(AqY f.1)) (some false) (cond (Em (Eb e d ⟨0,0,false,false,false,false,IK,0⟩)) (cond (!(Em f.1)) (some false) (cond (Wx f e d ⟨0,0,false,false,false,false,IK,0⟩) (some false) (k (.c1 n o (Aw6 d) p q r s t g h j l m e i)))) (cond (Wx f e d ⟨0,0,false,false,false,false,IK,0⟩) (some false) (k (.c1 n o (Aw6 d) p q r s t g h j l m e i))))) (cond (Em (Eb e d ⟨0,0,false,false,false,false,IK,0⟩)) (cond (!(Em f.1)) (some false) (cond (Wx f e d ⟨0,0,false,false,false,false,IK,0⟩) (some false) (k (.c1 n o (Aw6 d) p q r s t g h j l m e i)))) (cond (Wx f e d ⟨0,0,false,false,false,false,IK,0⟩) (some false) (k (.c1 n o (Aw6 d) p q r s t g h j l m e i))))))) (k (.c1 n o (Aw6 d) p q r s t g h j l m e i))) none) (k (.c0 n (Aw6 o) g h j l m i)))
def Uk:AzH XAe Bool
 |0,_=>none
 |m+1,s=>lZ RI QL RJ (Uk m) s
def XAp:OAU:=EA9 RI QL RJ (Uk AY)
def Ak5:AwF:=fy u1 XAp AU6 E8 [eX,DAj,qX] Tryz.func23 ZBg lZ EA9 Uk
inductive YAe where
 |c0 (a b:(List D8)) (d e:Int)
 |c1 (a b:(List D8)) (d e:Int) (f:(List D8)) (g h:Int) (i:D8)
def BBh:YAe->AsN
 |.c0 a b d e=>(tdo Tryz.f24 104,[vr 0 48 a,vr 7 48 b,vi 8 d,vi 9 e],[])
 |.c1 a b d e g h i f=>(tdo Tryz.f24 27032,[vr 0 48 a,vp 4 256,vr 7 48 b,vi 8 d,vi 9 e,vr 16 48 g,vi 17 h,vi 18 i],[(256,.var [li f.Ag,li f.Dv,li f.AUi])])
def FA9 (k:Aw7 YAe Bool):PAU:=fun a=>k (.c0 a a (a.length:Int) 0)
def lg (k:Aw7 YAe Bool):Aw7 YAe Bool
 |.c0 b c d a=>mk (cond (MZ a d) (cond (AwT a c.length) (cond (GL a (b.length:Int)) (k (.c1 b c d a ((b.take (BN a)).drop 0) (((b.take (BN a)).drop 0).length:Int) 0 (eY c a))) none) none) (some true))
 |.c1 e f g h b d a c=>mk (cond (MZ a d) (cond (AwT a b.length) (cond (c.Ag == (eY b a).Ag) (cond (c.Dv == (eY b a).Dv) (some false) (k (.c1 e f g h b d (Aw6 a) c))) (k (.c1 e f g h b d (Aw6 a) c))) none) (k (.c0 e f g (Aw6 h))))
def Ul:AzH YAe Bool
 |0,_=>none
 |m+1,s=>lg (Ul m) s
def YAp:PAU:=FA9 (Ul AY)
def CBh:AwF:=fy u1 YAp AEf E8 [] Tryz.func24 BBh lg FA9 Ul
inductive ZAe where
 |c0 (a:Int) (b:(List D8)) (d e:Int) (f:(List Int))
def DBh:ZAe->AsN
 |.c0 a b d e f=>(tdo Tryz.f10 232,[vi 1 a,vo 5 368,vr 8 48 b,vi 9 d,vi 10 e],[(368,.sl 3 f)])
def BBJ (k:Aw7 ZAe (List Int)):EAi:=fun a b=>k (.c0 b a (a.length:Int) 0 [])
def ZAp (k:Aw7 ZAe (List Int)):Aw7 ZAe (List Int)
 |.c0 e b d a c=>mk (cond (MZ a d) (cond (AwT a b.length) (cond ((eY b a).Ag == e) (cond (Ard c) (k (.c0 e b d (Aw6 a) (c++[(eY b a).Dv]))) none) (k (.c0 e b d (Aw6 a) c))) none) (Ld c))
def aW:AzH ZAe (List Int)
 |0,_=>none
 |m+1,s=>ZAp (aW m) s
def AFg:EAi:=BBJ (aW AY)
def EBh:AwF:=fy u2 AFg AfA JZ [] Tryz.func10 DBh ZAp BBJ aW
inductive AAf where
 |c0 (a b:(List D8)) (d e:Int)
 |c1 (a:(List D8)) (f:Int) (b:(List D8)) (d e:Int) (g:(List Int))
def FBh:AAf->AsN
 |.c0 a b d e=>(tdo Tryz.f25 104,[vr 0 48 a,vr 7 48 b,vi 8 d,vi 9 e],[])
 |.c1 a f b d e g=>(tdo Tryz.f25 108144,[vr 0 48 a,vo 5 368,vi 6 f,vr 7 48 b,vi 8 d,vi 9 e],[(368,.sl 3 g)])
def GA9 (b:EAi) (k:Aw7 AAf Bool):PAU:=fun a=>k (.c0 a a (a.length:Int) 0)
def lu (a:EAi) (k:Aw7 AAf Bool):Aw7 AAf Bool
 |.c0 f c d b=>mk (cond (MZ b d) (cond (AwT b c.length) ((a f (eY c b).Ag).bind fun e=>k (.c1 f 1 c d b e)) none) (some true))
 |.c1 d b e f g c=>mk (cond (MZ b (NZ c)) (cond (Awe (b - 1) c) (cond (AsI b c) (cond (AwL (Ud c (b - 1)) (Arn c b)) (some false) (k (.c1 d (Aw6 b) e f g c))) none) none) (k (.c0 d e f (Aw6 g))))
def Um:AzH AAf Bool
 |0,_=>none
 |m+1,s=>lu AFg (Um m) s
def BAq:PAU:=GA9 AFg (Um AY)
def GBh:AwF:=fy u1 BAq AEf E8 [EBh] Tryz.func25 FBh lu GA9 Um
def HA9 (d:DAU) (e:BAu) (f g:MAU) (h:MAu) (i:NAu) (j l:NAU) (m n:OAU) (o p:PAU):DAU:=fun q=>mk (Aqs (d ()) (some true) ((e ()).bind fun b=>(f b.1 b.2.1 b.2.2).bind fun a=>(g b.1 b.2.1 b.2.2).bind fun c=>Aws a.2 (Aqs (h a.1.CO c.1.CO) (Aqs (i a.1.AX.Bc c.1.AX.Bc) (Aqs (j a.1) (Aqs (l a.1) (Aqs (m a.1.CO) (Aqs (n a.1.CO) (Aqs (o a.1.Cm) (Aqs (p a.1.Cm) (some (Arf (AxM a.1.CO))) (some false)) (some false)) (some false)) (some false)) (some false)) (some false)) (some false)) (some false)) (some false)))
def AC8:DAU:=HA9 BAv BAm xq lS RAp TAp UAp VAp WAp XAp YAp BAq
theorem Aap:Q8 ctx PP 5 wY E8 (u1 AC8):=ty0 u1 AC8 wY E8 [NBT,XBZ,LBg,QBg,SBg,UBg,VBg,WBg,YBg,Ak5,CBh,GBh] Tryz.func5 HA9
end
end Go.Proofs.YtkbbicgglblfiaaGreatDoor.G
