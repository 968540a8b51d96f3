/- Functions of the program, told by plain functions: part 2 of 2. -/
import Derived.Test.YthfpmhalgimbbaaGreatDoorFFnExactRisea
namespace Go.Proofs.YthfpmhalgimbbaaGreatDoor.G
open Go Go.Ev
set_option linter.unusedVariables false
abbrev Lr:=SBook→Int→Option Int
inductive Nr where
 | c0 (id_1:Int) (v_8:(List SThing)) (v_9:Int) (v_10:Int)
noncomputable def NAS:Nr→LI
 | .c0 id_1 v_8 v_9 v_10=>(tdo Tryz.f155 104,[(1,[.one (.int .i64 id_1)]),(8,[.one (.rsl 69 v_8)]),(9,[.one (.int .i64 v_9)]),(10,[.one (.int .i64 v_10)])],[])
noncomputable def OAS (k:Nr→Option Int) (b_0:SBook) (id_1:Int):Option Int:=
 k (.c0 id_1 b_0.fThings (b_0.fThings.length:Int) 0)
noncomputable def H9 (k:Nr→Option Int):Nr→Option Int
 | .c0 id_1 v_8 v_9 v_10=>
 bif (decide (v_10<v_9)) then
  bif ((decide (0≤v_10)) && (decide (v_10<(v_8.length:Int)))) then
  bif ((v_8.getD v_10.toNat (⟨0,0,false,false,false,false,⟨#[]⟩,0⟩:SThing)).fId == id_1) then
  some v_10
  else
  k (.c0 id_1 v_8 v_9 (w64 (v_10+1)))
  else none
 else
  some (-(1:Int))
noncomputable def Bo:Nat→Nr→Option Int
 | 0,_=>none
 | m+1,s=>H9 (Bo m) s
noncomputable def Gi:Lr:=OAS (Bo gas)
theorem UAF:Tells ctx PP 155 cv21 cv15 (fun a=>Gi a.1 a.2):=
 have b:CutIs ctx PP 155 Tryz.f155 [] [] cv15 NAS (H9):=fun _ s=>by cases s <;> kernel_rfl
 have e:EntryIs ctx PP 155 [] [] cv21 cv15 NAS (fun k a=>OAS k a.1 a.2):=fun _ a=>by kernel_rfl
 fn_ok hl_nil Tryz.func155 (fun s s' h=>by cases s;cases s';cases h;rfl) (fun _=>rfl) (fun _ _=>rfl) b e gas
noncomputable def VAF {γ:Type} (F:Lr):Hd ctx γ:=hdl cv21.dec (fun a=>F a.1 a.2) cv15.enc
abbrev WAF:=SThing→SThing→Option Bool
noncomputable def XAF (x_0:SThing) (y_1:SThing):Option Bool:=
 bif (y_1.fKind == x_0.fKind) then
 bif ((ByteArray.toList y_1.fValue) == (ByteArray.toList x_0.fValue)) then
  bif (y_1.fSigns == x_0.fSigns) then
  bif (y_1.fWraps == x_0.fWraps) then
   bif (decide (y_1.fNext≥x_0.fNext)) then
   bif y_1.fHidden then
    bif y_1.fFixed then
    some true
    else
    some (!x_0.fFixed)
   else
    bif (!x_0.fHidden) then
    bif y_1.fFixed then
     some true
    else
     some (!x_0.fFixed)
    else
    some false
   else
   some false
  else
   some false
  else
  some false
 else
  some false
 else
 some false
noncomputable def Qr:WAF:=XAF
theorem JAc:Tells ctx PP 193 cv23 cv6 (fun a=>Qr a.1 a.2):=fn_ok0 hl_nil Tryz.func193 (fun a=>by kernel_rfl:EntryIs0 ctx PP 193 [] [] cv23 cv6 fun a=>XAF a.1 a.2)
noncomputable def KAc {γ:Type} (F:WAF):Hd ctx γ:=hdl cv23.dec (fun a=>F a.1 a.2) cv6.enc
abbrev YAF:=SBook→SThing→Option (Bool×SBook)
noncomputable def ZAF (z0:Lr) (z1:WAF) (b_0:SBook) (x_1:SThing):Option (Bool×SBook):=
 (z0 b_0 x_1.fId).bind fun r0=>
 bif (decide (r0≥0)) then
 bif ((decide (0≤r0)) && (decide (r0<(b_0.fThings.length:Int)))) then
 (z1 (b_0.fThings.getD r0.toNat (⟨0,0,false,false,false,false,⟨#[]⟩,0⟩:SThing)) x_1).bind fun r1=>
 bif (!r1) then
  some (false,b_0)
 else
  bif ((decide (0≤r0)) && (decide (r0<(b_0.fThings.length:Int)))) then
  some (true,⟨b_0.fWord,b_0.fTries,(b_0.fThings.set r0.toNat x_1),b_0.fLast,b_0.fChain,b_0.fCount⟩)
  else none
 else none
 else
 bif (x_1.fId != (w64 (b_0.fLast+1))) then
  some (false,b_0)
 else
  bif (decide ((b_0.fThings.length:Int)≥8)) then
  some (false,b_0)
  else
  bif (decide (((b_0.fThings.length+1)*48)≤140737488355328)) then
  some (true,⟨b_0.fWord,b_0.fTries,(b_0.fThings++[x_1]),x_1.fId,b_0.fChain,b_0.fCount⟩)
  else none
noncomputable def Sr:YAF:=ZAF Gi Qr
theorem LAc:Tells ctx PP 154 cv50 cv51 (fun a=>Sr a.1 a.2):=fn_ok0 (hc UAF (hc JAc hl_nil)) Tryz.func154 ((fun z0 z1 a=>by kernel_rfl:∀ z0 z1,EntryIs0 ctx PP 154 [0] [(155,VAF z0),(193,KAc z1)] cv50 cv51 fun a=>ZAF z0 z1 a.1 a.2) Gi Qr)
noncomputable def MAc {γ:Type} (F:YAF):Hd ctx γ:=hdl cv50.dec (fun a=>F a.1 a.2) cv51.enc
abbrev I9:=SBook→SRec→Option (SBook×Bool)
noncomputable def AAG (z0:J9) (z1:Ur) (z2:Vr) (z3:YAF) (z4:Lr) (z5:Xr) (b_0:SBook) (r_1:SRec):Option (SBook×Bool):=
 (z0 r_1).bind fun r0=>
 (z1 b_0).bind fun r1=>
 bif (!r1) then
 some (⟨⟨#[]⟩,0,[],0,⟨#[]⟩,0⟩,false)
 else
 bif (!r0.2) then
  some (⟨⟨#[]⟩,0,[],0,⟨#[]⟩,0⟩,false)
 else
  bif (decide (b_0.fCount≥10000)) then
  some (⟨⟨#[]⟩,0,[],0,⟨#[]⟩,0⟩,false)
  else
  (z2 b_0).bind fun r2=>
  bif (r_1.fKind == 1) then
   bif (decide ((b_0.fChain.size+r0.1.size)≤9223372036854775807)) then
   (z5 (b_0.fChain++r0.1)).bind fun r3=>
   some (⟨r_1.fText,0,r2.fThings,r2.fLast,r3,(w64 (r2.fCount+1))⟩,true)
   else none
  else
   bif (r_1.fKind == 2) then
   bif (decide ((b_0.fChain.size+r0.1.size)≤9223372036854775807)) then
   (z5 (b_0.fChain++r0.1)).bind fun r4=>
   some (⟨r2.fWord,r_1.fNum,r2.fThings,r2.fLast,r4,(w64 (r2.fCount+1))⟩,true)
   else none
   else
   bif (r_1.fKind == 3) then
    (z3 r2 r_1.fThing).bind fun r5=>
    bif (!r5.1) then
    some (⟨⟨#[]⟩,0,[],0,⟨#[]⟩,0⟩,false)
    else
    bif (decide ((b_0.fChain.size+r0.1.size)≤9223372036854775807)) then
    (z5 (b_0.fChain++r0.1)).bind fun r6=>
    some (⟨r5.2.fWord,r5.2.fTries,r5.2.fThings,r5.2.fLast,r6,(w64 (r5.2.fCount+1))⟩,true)
    else none
   else
    bif (r_1.fKind == 4) then
    (z4 b_0 r_1.fNum).bind fun r7=>
    bif (decide (r7<0)) then
     some (⟨⟨#[]⟩,0,[],0,⟨#[]⟩,0⟩,false)
    else
     bif ((decide (0≤r7)) && (decide (r7≤(b_0.fThings.length:Int)))) then
     bif (decide ((((b_0.fThings.take r7.toNat).drop 0).length*48)≤140737488355328)) then
     bif ((decide (0≤(w64 (r7+1)))) && (decide ((w64 (r7+1))≤(b_0.fThings.length:Int)))) then
     bif (decide (((((b_0.fThings.take r7.toNat).drop 0).length+((b_0.fThings.take b_0.fThings.length).drop (w64 (r7+1)).toNat).length)*48)≤140737488355328)) then
     bif (decide ((b_0.fChain.size+r0.1.size)≤9223372036854775807)) then
     (z5 (b_0.fChain++r0.1)).bind fun r8=>
     some (⟨r2.fWord,r2.fTries,(((b_0.fThings.take r7.toNat).drop 0)++((b_0.fThings.take b_0.fThings.length).drop (w64 (r7+1)).toNat)),r2.fLast,r8,(w64 (r2.fCount+1))⟩,true)
     else none
     else none
     else none
     else none
     else none
    else
    bif (decide ((b_0.fChain.size+r0.1.size)≤9223372036854775807)) then
    (z5 (b_0.fChain++r0.1)).bind fun r9=>
    some (⟨r2.fWord,r2.fTries,r2.fThings,r2.fLast,r9,(w64 (r2.fCount+1))⟩,true)
    else none
noncomputable def Fj:I9:=AAG Gj Pg Qg Sr Gi Ed
theorem NAc:Tells ctx PP 101 cv26 cv27 (fun a=>Fj a.1 a.2):=fn_ok0 (hc PAS (hc QAS (hc RAS (hc LAc (hc UAF (hc BAG hl_nil)))))) Tryz.func101 ((fun z0 z1 z2 z3 z4 z5 a=>by kernel_rfl:∀ z0 z1 z2 z3 z4 z5,EntryIs0 ctx PP 101 [] [(151,SAS z0),(63,CAG z1),(134,EAG z2),(154,MAc z3),(155,VAF z4),(32,FAG z5)] cv26 cv27 fun a=>AAG z0 z1 z2 z3 z4 z5 a.1 a.2) Gj Pg Qg Sr Gi Ed)
noncomputable def TAS {γ:Type} (F:I9):Hd ctx γ:=hdl cv26.dec (fun a=>F a.1 a.2) cv27.enc
abbrev GAG:=SBook→(List SRec)→Option (SBook×Bool)
inductive Yr where
 | c0 (v_13:(List SRec)) (v_14:Int) (v_15:Int) (v_4c0:ByteArray) (v_4c1:Int) (v_4c3:Int) (v_4c4:ByteArray) (v_4c5:Int) (out_6c0:ByteArray) (out_6c1:Int) (out_6c3:Int) (out_6c4:ByteArray) (out_6c5:Int) (v_4r2:(List SThing)) (out_6r2:(List SThing))
noncomputable def UAS:Yr→LI
 | .c0 v_13 v_14 v_15 v_4c0 v_4c1 v_4c3 v_4c4 v_4c5 out_6c0 out_6c1 out_6c3 out_6c4 out_6c5 v_4r2 out_6r2=>(tdo Tryz.f74 232,[(4,[.one (.ptr 256 0)]),(6,[.one (.ptr 384 0)]),(13,[.one (.rsl 71 v_13)]),(14,[.one (.int .i64 v_14)]),(15,[.one (.int .i64 v_15)])],[(256,.var [.str v_4c0,.int .i64 v_4c1,.own 1016386,.int .i64 v_4c3,.str v_4c4,.int .i64 v_4c5]),(384,.var [.str out_6c0,.int .i64 out_6c1,.own 1024578,.int .i64 out_6c3,.str out_6c4,.int .i64 out_6c5]),(1016386,.sl 69 v_4r2),(1024578,.sl 69 out_6r2)])
noncomputable def HAG (z0:Vr) (z1:I9) (k:Yr→Option (SBook×Bool)) (b_0:SBook) (list_1:(List SRec)):Option (SBook×Bool):=
 (z0 b_0).bind fun r0=>
 k (.c0 list_1 (list_1.length:Int) 0 ⟨#[]⟩ 0 0 ⟨#[]⟩ 0 r0.fWord r0.fTries r0.fLast r0.fChain r0.fCount [] r0.fThings)
noncomputable def L9 (z0:Vr) (z1:I9) (k:Yr→Option (SBook×Bool)):Yr→Option (SBook×Bool)
 | .c0 v_13 v_14 v_15 v_4c0 v_4c1 v_4c3 v_4c4 v_4c5 out_6c0 out_6c1 out_6c3 out_6c4 out_6c5 v_4r2 out_6r2=>
 bif (decide (v_15<v_14)) then
  bif ((decide (0≤v_15)) && (decide (v_15<(v_13.length:Int)))) then
  (z1 ⟨out_6c0,out_6c1,out_6r2,out_6c3,out_6c4,out_6c5⟩ (v_13.getD v_15.toNat (⟨0,⟨#[]⟩,0,⟨0,0,false,false,false,false,⟨#[]⟩,0⟩⟩:SRec))).bind fun r0=>
  bif (!r0.2) then
  some (⟨⟨#[]⟩,0,[],0,⟨#[]⟩,0⟩,false)
  else
  k (.c0 v_13 v_14 (w64 (v_15+1)) v_4c0 v_4c1 v_4c3 v_4c4 v_4c5 r0.1.fWord r0.1.fTries r0.1.fLast r0.1.fChain r0.1.fCount v_4r2 r0.1.fThings)
  else none
 else
  some (⟨out_6c0,out_6c1,out_6r2,out_6c3,out_6c4,out_6c5⟩,true)
noncomputable def Zr:Nat→Yr→Option (SBook×Bool)
 | 0,_=>none
 | m+1,s=>L9 Qg Fj (Zr m) s
noncomputable def Es:GAG:=HAG Qg Fj (Zr gas)
theorem OAc:Tells ctx PP 74 cv113 cv27 (fun a=>Es a.1 a.2):=
 have b:∀ z0 z1,CutIs ctx PP 74 Tryz.f74 [] [(134,EAG z0),(101,TAS z1)] cv27 UAS (L9 z0 z1):=fun z0 z1 _ s=>by cases s <;> kernel_rfl
 have e:∀ z0 z1,EntryIs ctx PP 74 [] [(134,EAG z0),(101,TAS z1)] cv113 cv27 UAS (fun k a=>HAG z0 z1 k a.1 a.2):=fun z0 z1 _ a=>by kernel_rfl
 fn_ok (hc RAS (hc NAc hl_nil)) Tryz.func74 (fun s s' h=>by cases s;cases s';cases h;rfl) (fun _=>rfl) (fun _ _=>rfl) (b Qg Fj) (e Qg Fj) gas
noncomputable def PAc {γ:Type} (F:GAG):Hd ctx γ:=hdl cv113.dec (fun a=>F a.1 a.2) cv27.enc
abbrev Gs:=ByteArray→SDisk→Option (SBook×(List SAct)×Bool)
noncomputable def IAG (z0:JAG) (z1:KAG) (z2:Js) (z3:GAG) (z4:Eo) (z5:Ho) (key_0:ByteArray) (d_1:SDisk):Option (SBook×(List SAct)×Bool):=
 (z0 d_1 ⟨#[98,111,111,107]⟩).bind fun r0=>
 (z1 key_0 r0.1).bind fun r1=>
 z2.bind fun r2=>
 (z3 r2 r1.1).bind fun r3=>
 (z4 d_1).bind fun r4=>
 bif (!r4) then
 some (⟨⟨#[]⟩,0,[],0,⟨#[]⟩,0⟩,([],false))
 else
 bif (!r3.2) then
  some (⟨⟨#[]⟩,0,[],0,⟨#[]⟩,0⟩,([],false))
 else
  (z5 d_1 ⟨#[98,111,111,107,43]⟩).bind fun r5=>
  bif (decide (r5≥0)) then
  bif (r1.2 == (r0.1.size:Int)) then
   some (r3.1,([⟨4,⟨#[98,111,111,107,43]⟩,⟨#[]⟩,⟨#[]⟩⟩],true))
  else
   bif ((decide (0≤r1.2)) && (decide (r1.2≤(r0.1.size:Int)))) then
   some (r3.1,(([(⟨4,⟨#[98,111,111,107,43]⟩,⟨#[]⟩,⟨#[]⟩⟩:SAct)]++[(⟨1,⟨#[98,111,111,107,43]⟩,(r0.1.extract 0 r1.2.toNat),⟨#[]⟩⟩:SAct),(⟨2,⟨#[98,111,111,107,43]⟩,⟨#[]⟩,⟨#[]⟩⟩:SAct),(⟨3,⟨#[98,111,111,107,43]⟩,⟨#[]⟩,⟨#[98,111,111,107]⟩⟩:SAct)]),true))
   else none
  else
  bif (r1.2 == (r0.1.size:Int)) then
   some (r3.1,([],true))
  else
   bif ((decide (0≤r1.2)) && (decide (r1.2≤(r0.1.size:Int)))) then
   some (r3.1,([⟨1,⟨#[98,111,111,107,43]⟩,(r0.1.extract 0 r1.2.toNat),⟨#[]⟩⟩,⟨2,⟨#[98,111,111,107,43]⟩,⟨#[]⟩,⟨#[]⟩⟩,⟨3,⟨#[98,111,111,107,43]⟩,⟨#[]⟩,⟨#[98,111,111,107]⟩⟩],true))
   else none
noncomputable def Ug:Gs:=IAG Ls Ns Vg Es Jd Ld
theorem VAS:Tells ctx PP 62 cv114 cv115 (fun a=>Ug a.1 a.2):=fn_ok0 (hc QAc (hc RAc (hc XAS (hc OAc (hc LAG (hc N9 hl_nil)))))) Tryz.func62 ((fun z0 z1 z2 z3 z4 z5 a=>by kernel_rfl:∀ z0 z1 z2 z3 z4 z5,EntryIs0 ctx PP 62 [] [(126,SAc z0),(127,TAc z1),(30,MAG z2),(74,PAc z3),(59,O9 z4),(128,P9 z5)] cv114 cv115 fun a=>IAG z0 z1 z2 z3 z4 z5 a.1 a.2) Ls Ns Vg Es Jd Ld)
noncomputable def NAG {γ:Type} (F:Gs):Hd ctx γ:=hdl cv114.dec (fun a=>F a.1 a.2) cv115.enc
abbrev Q9:=SBook→Int→Option (SThing×Bool)
noncomputable def OAG (z0:Lr) (b_0:SBook) (id_1:Int):Option (SThing×Bool):=
 (z0 b_0 id_1).bind fun r0=>
 bif (decide (r0<0)) then
 some (⟨0,0,false,false,false,false,⟨#[]⟩,0⟩,false)
 else
 bif ((decide (0≤r0)) && (decide (r0<(b_0.fThings.length:Int)))) then
 some ((b_0.fThings.getD r0.toNat (⟨0,0,false,false,false,false,⟨#[]⟩,0⟩:SThing)),true)
 else none
noncomputable def Ij:Q9:=OAG Gi
theorem UAc:Tells ctx PP 130 cv21 cv22 (fun a=>Ij a.1 a.2):=fn_ok0 (hc UAF hl_nil) Tryz.func130 ((fun z0 a=>by kernel_rfl:∀ z0,EntryIs0 ctx PP 130 [] [(155,VAF z0)] cv21 cv22 fun a=>OAG z0 a.1 a.2) Gi)
noncomputable def YAS {γ:Type} (F:Q9):Hd ctx γ:=hdl cv21.dec (fun a=>F a.1 a.2) cv22.enc
abbrev S9:=SBox→Option Bool
inductive Qs where
 | c0 (v_8:(List SLive)) (v_9:Int) (v_10:Int) (b_1:SBox)
noncomputable def ZAS:Qs→LI
 | .c0 v_8 v_9 v_10 b_1=>(tdo Tryz.f64 104,[(1,[.one (.ptr 64 0)]),(8,[.one (.rsl 149 v_8)]),(9,[.one (.int .i64 v_9)]),(10,[.one (.int .i64 v_10)])],[(64,.var [.str b_1.fKey,.bool b_1.fUp,.rsl 155 b_1.fDisk.fFiles,.str b_1.fBook.fWord,.int .i64 b_1.fBook.fTries,.rsl 69 b_1.fBook.fThings,.int .i64 b_1.fBook.fLast,.str b_1.fBook.fChain,.int .i64 b_1.fBook.fCount,.rsl 92 b_1.fSessions,.rsl 149 b_1.fLives,.int .i64 b_1.fOpened])])
noncomputable def PAG (z0:Q9) (z1:FZ) (k:Qs→Option Bool) (b_0:SBox):Option Bool:=
 k (.c0 b_0.fLives (b_0.fLives.length:Int) 0 b_0)
noncomputable def U9 (z0:Q9) (z1:FZ) (k:Qs→Option Bool):Qs→Option Bool
 | .c0 v_8 v_9 v_10 b_1=>
 bif (decide (v_10<v_9)) then
  bif ((decide (0≤v_10)) && (decide (v_10<(v_8.length:Int)))) then
  (z0 b_1.fBook (v_8.getD v_10.toNat (⟨0,0⟩:SLive)).fId).bind fun r0=>
  bif (!r0.2) then
  some false
  else
  bif (r0.1.fKind != 2) then
   some false
  else
   (z1 (v_8.getD v_10.toNat (⟨0,0⟩:SLive)).fNext 0 r0.1.fNext).bind fun r1=>
   bif (!r1) then
   some false
   else
   bif (decide (v_10 > 0)) then
    bif ((decide (0≤(w64 (v_10 - 1)))) && (decide ((w64 (v_10 - 1))<(b_1.fLives.length:Int)))) then
    bif (decide ((b_1.fLives.getD (w64 (v_10 - 1)).toNat (⟨0,0⟩:SLive)).fId≥(v_8.getD v_10.toNat (⟨0,0⟩:SLive)).fId)) then
    some false
    else
    k (.c0 v_8 v_9 (w64 (v_10+1)) b_1)
    else none
   else
    k (.c0 v_8 v_9 (w64 (v_10+1)) b_1)
  else none
 else
  some true
noncomputable def Us:Nat→Qs→Option Bool
 | 0,_=>none
 | m+1,s=>U9 Ij YX (Us m) s
noncomputable def Jj:S9:=PAG Ij YX (Us gas)
theorem VAc:Tells ctx PP 64 cv116 cv6 (fun a=>Jj a):=
 have b:∀ z0 z1,CutIs ctx PP 64 Tryz.f64 [] [(130,YAS z0),(60,PZ z1)] cv6 ZAS (U9 z0 z1):=fun z0 z1 _ s=>by cases s <;> kernel_rfl
 have e:∀ z0 z1,EntryIs ctx PP 64 [] [(130,YAS z0),(60,PZ z1)] cv116 cv6 ZAS (fun k a=>PAG z0 z1 k a):=fun z0 z1 _ a=>by kernel_rfl
 fn_ok (hc UAc (hc Md hl_nil)) Tryz.func64 (fun s s' h=>by cases s;cases s';(repeat cases ‹SBox›);(repeat cases ‹SDisk›);(repeat cases ‹SBook›);cases h;rfl) (fun _=>rfl) (fun _ _=>rfl) (b Ij YX) (e Ij YX) gas
noncomputable def AAT {γ:Type} (F:S9):Hd ctx γ:=hdl cv116.dec (fun a=>F a) cv6.enc
abbrev QAG:=SBox→Option Bool
inductive Vs where
 | c0 (v_44:(List SSession)) (v_45:Int) (v_46:Int) (b_1:SBox)
noncomputable def BAT:Vs→LI
 | .c0 v_44 v_45 v_46 b_1=>(tdo Tryz.f16 488,[(1,[.one (.ptr 64 0)]),(44,[.one (.rsl 92 v_44)]),(45,[.one (.int .i64 v_45)]),(46,[.one (.int .i64 v_46)])],[(64,.var [.str b_1.fKey,.bool b_1.fUp,.rsl 155 b_1.fDisk.fFiles,.str b_1.fBook.fWord,.int .i64 b_1.fBook.fTries,.rsl 69 b_1.fBook.fThings,.int .i64 b_1.fBook.fLast,.str b_1.fBook.fChain,.int .i64 b_1.fBook.fCount,.rsl 92 b_1.fSessions,.rsl 149 b_1.fLives,.int .i64 b_1.fOpened])])
noncomputable def RAG (z0:Eo) (z1:FZ) (z2:Js) (z3:V9) (z4:Gs) (z5:Ur) (z6:S9) (k:Vs→Option Bool) (b_0:SBox):Option Bool:=
 bif ((b_0.fKey.size:Int) != 32) then
 some false
 else
 (z0 b_0.fDisk).bind fun r0=>
 bif (!r0) then
  some false
 else
  (z1 b_0.fOpened 0 1000).bind fun r1=>
  bif (!r1) then
  some false
  else
  bif (!b_0.fUp) then
   bif ((b_0.fSessions.length:Int) == 0) then
   bif ((b_0.fLives.length:Int) == 0) then
    z2.bind fun r2=>
    (z3 b_0.fBook r2).bind fun r3=>
    some r3
   else
    some false
   else
   some false
  else
   k (.c0 b_0.fSessions (b_0.fSessions.length:Int) 0 b_0)
noncomputable def Ws (z0:Eo) (z1:FZ) (z2:Js) (z3:V9) (z4:Gs) (z5:Ur) (z6:S9) (k:Vs→Option Bool):Vs→Option Bool
 | .c0 v_44 v_45 v_46 b_1=>
 bif (decide (v_46<v_45)) then
  bif ((decide (0≤v_46)) && (decide (v_46<(v_44.length:Int)))) then
  bif (decide (v_46≥3)) then
  some false
  else
  (z1 (v_44.getD v_46.toNat (⟨0,false⟩:SSession)).fId 1 b_1.fOpened).bind fun r0=>
  bif (!r0) then
   some false
  else
   bif (decide (v_46 > 0)) then
   bif ((decide (0≤(w64 (v_46 - 1)))) && (decide ((w64 (v_46 - 1))<(b_1.fSessions.length:Int)))) then
   bif (decide ((b_1.fSessions.getD (w64 (v_46 - 1)).toNat (⟨0,false⟩:SSession)).fId≥(v_44.getD v_46.toNat (⟨0,false⟩:SSession)).fId)) then
    some false
   else
    k (.c0 v_44 v_45 (w64 (v_46+1)) b_1)
   else none
   else
   k (.c0 v_44 v_45 (w64 (v_46+1)) b_1)
  else none
 else
  (z4 b_1.fKey b_1.fDisk).bind fun r1=>
  (z5 b_1.fBook).bind fun r2=>
  bif r2 then
  bif r1.2.2 then
   bif ((r1.2.1.length:Int) == 0) then
   (z3 r1.1 b_1.fBook).bind fun r3=>
   bif r3 then
    (z6 b_1).bind fun r4=>
    some r4
   else
    some false
   else
   some false
  else
   some false
  else
  some false
noncomputable def Dt:Nat→Vs→Option Bool
 | 0,_=>none
 | m+1,s=>Ws Jd YX Vg Lj Ug Pg Jj (Dt m) s
noncomputable def Et:QAG:=RAG Jd YX Vg Lj Ug Pg Jj (Dt gas)
theorem WAc:Tells ctx PP 16 cv116 cv6 (fun a=>Et a):=
 have b:∀ z0 z1 z2 z3 z4 z5 z6,CutIs ctx PP 16 Tryz.f16 [] [(59,O9 z0),(60,PZ z1),(30,MAG z2),(61,CAT z3),(62,NAG z4),(63,CAG z5),(64,AAT z6)] cv6 BAT (Ws z0 z1 z2 z3 z4 z5 z6):=fun z0 z1 z2 z3 z4 z5 z6 _ s=>by cases s <;> kernel_rfl
 have e:∀ z0 z1 z2 z3 z4 z5 z6,EntryIs ctx PP 16 [] [(59,O9 z0),(60,PZ z1),(30,MAG z2),(61,CAT z3),(62,NAG z4),(63,CAG z5),(64,AAT z6)] cv116 cv6 BAT (fun k a=>RAG z0 z1 z2 z3 z4 z5 z6 k a):=fun z0 z1 z2 z3 z4 z5 z6 _ a=>by kernel_rfl
 fn_ok (hc LAG (hc Md (hc XAS (hc XAc (hc VAS (hc QAS (hc VAc hl_nil))))))) Tryz.func16 (fun s s' h=>by cases s;cases s';(repeat cases ‹SBox›);(repeat cases ‹SDisk›);(repeat cases ‹SBook›);cases h;rfl) (fun _=>rfl) (fun _ _=>rfl) (b Jd YX Vg Lj Ug Pg Jj) (e Jd YX Vg Lj Ug Pg Jj) gas
noncomputable def YAc {γ:Type} (F:QAG):Hd ctx γ:=hdl cv116.dec (fun a=>F a) cv6.enc
abbrev Gt:=SDisk→Option SDisk
noncomputable def SAG (d_0:SDisk):Option SDisk:=
 bif (decide ((d_0.fFiles.length*40)≤140737488355328)) then
 some d_0
 else none
noncomputable def Xg:Gt:=SAG
theorem DAT:Tells ctx PP 138 cv35 cv38 (fun a=>Xg a):=fn_ok0 hl_nil Tryz.func138 (fun a=>by kernel_rfl:EntryIs0 ctx PP 138 [] [] cv35 cv38 fun a=>SAG a)
noncomputable def UAG {γ:Type} (F:Gt):Hd ctx γ:=hdl cv35.dec (fun a=>F a) cv38.enc
abbrev Ht:=SDisk→ByteArray→Option SDisk
noncomputable def VAG (z0:Ho) (d_0:SDisk) (name_1:ByteArray):Option SDisk:=
 (z0 d_0 name_1).bind fun r0=>
 bif (decide (r0≥0)) then
 bif ((decide (0≤r0)) && (decide (r0≤(d_0.fFiles.length:Int)))) then
 bif (decide ((((d_0.fFiles.drop 0).take (r0.toNat - 0)).length*40)≤140737488355328)) then
 bif ((decide (0≤(w64 (r0+1)))) && (decide ((w64 (r0+1))≤(d_0.fFiles.length:Int)))) then
 bif (decide (((((d_0.fFiles.drop 0).take (r0.toNat - 0)).length+((d_0.fFiles.drop (w64 (r0+1)).toNat).take (d_0.fFiles.length - (w64 (r0+1)).toNat)).length)*40)≤140737488355328)) then
 some ⟨(((d_0.fFiles.drop 0).take (r0.toNat - 0))++((d_0.fFiles.drop (w64 (r0+1)).toNat).take (d_0.fFiles.length - (w64 (r0+1)).toNat)))⟩
 else none
 else none
 else none
 else none
 else
 some d_0
noncomputable def Yg:Ht:=VAG Ld
theorem EAT:Tells ctx PP 175 cv48 cv38 (fun a=>Yg a.1 a.2):=fn_ok0 (hc N9 hl_nil) Tryz.func175 ((fun z0 a=>by kernel_rfl:∀ z0,EntryIs0 ctx PP 175 [0] [(128,P9 z0)] cv48 cv38 fun a=>VAG z0 a.1 a.2) Ld)
noncomputable def WAG {γ:Type} (F:Ht):Hd ctx γ:=hdl cv48.dec (fun a=>F a.1 a.2) cv38.enc
abbrev XAG:=SDisk→SFile→Option SDisk
inductive Jt where
 | c0 (k_4:Int) (f_3:SFile) (d_0r0:(List SFile))
noncomputable def FAT:Jt→LI
 | .c0 k_4 f_3 d_0r0=>(tdo Tryz.f174 480,[(0,[.one (.ptr 0 0)]),(3,[.one (.ptr 192 0)]),(4,[.one (.int .i64 k_4)])],[(0,.var [.own 1000000]),(192,.var [.str f_3.fName,.str f_3.fText,.int .i64 f_3.fKept]),(1000000,.sl 155 d_0r0)])
noncomputable def YAG (z0:Ht) (k:Jt→Option SDisk) (d_0:SDisk) (f_1:SFile):Option SDisk:=
 (z0 d_0 f_1.fName).bind fun r0=>
 k (.c0 0 f_1 r0.fFiles)
noncomputable def W9 (z0:Ht) (k:Jt→Option SDisk):Jt→Option SDisk
 | .c0 k_4 f_3 d_0r0=>
 bif (decide (k_4<(d_0r0.length:Int))) then
  bif ((decide (0≤k_4)) && (decide (k_4<(d_0r0.length:Int)))) then
  bif (Op.bytesLess (ByteArray.toList (d_0r0.getD k_4.toNat (⟨⟨#[]⟩,⟨#[]⟩,0⟩:SFile)).fName) (ByteArray.toList f_3.fName)) then
  k (.c0 (w64 (k_4+1)) f_3 d_0r0)
  else
  bif ((decide (0≤k_4)) && (decide (k_4≤(d_0r0.length:Int)))) then
  bif (decide ((((d_0r0.drop 0).take (k_4.toNat - 0)).length*40)≤140737488355328)) then
  bif (decide (((((d_0r0.drop 0).take (k_4.toNat - 0)).length+1)*40)≤140737488355328)) then
  bif ((decide (0≤k_4)) && (decide (k_4≤(d_0r0.length:Int)))) then
  bif (decide ((((((d_0r0.drop 0).take (k_4.toNat - 0))++[f_3]).length+((d_0r0.drop k_4.toNat).take (d_0r0.length - k_4.toNat)).length)*40)≤140737488355328)) then
  some ⟨((((d_0r0.drop 0).take (k_4.toNat - 0))++[f_3])++((d_0r0.drop k_4.toNat).take (d_0r0.length - k_4.toNat)))⟩
  else none
  else none
  else none
  else none
  else none
  else none
 else
  bif ((decide (0≤k_4)) && (decide (k_4≤(d_0r0.length:Int)))) then
  bif (decide ((((d_0r0.drop 0).take (k_4.toNat - 0)).length*40)≤140737488355328)) then
  bif (decide (((((d_0r0.drop 0).take (k_4.toNat - 0)).length+1)*40)≤140737488355328)) then
  bif ((decide (0≤k_4)) && (decide (k_4≤(d_0r0.length:Int)))) then
  bif (decide ((((((d_0r0.drop 0).take (k_4.toNat - 0))++[f_3]).length+((d_0r0.drop k_4.toNat).take (d_0r0.length - k_4.toNat)).length)*40)≤140737488355328)) then
  some ⟨((((d_0r0.drop 0).take (k_4.toNat - 0))++[f_3])++((d_0r0.drop k_4.toNat).take (d_0r0.length - k_4.toNat)))⟩
  else none
  else none
  else none
  else none
  else none
noncomputable def Kt:Nat→Jt→Option SDisk
 | 0,_=>none
 | m+1,s=>W9 Yg (Kt m) s
noncomputable def Ot:XAG:=YAG Yg (Kt gas)
theorem ZAc:Tells ctx PP 174 cv49 cv38 (fun a=>Ot a.1 a.2):=
 have b:∀ z0,CutIs ctx PP 174 Tryz.f174 [0] [(175,WAG z0)] cv38 FAT (W9 z0):=fun z0 _ s=>by cases s <;> kernel_rfl
 have e:∀ z0,EntryIs ctx PP 174 [0] [(175,WAG z0)] cv49 cv38 FAT (fun k a=>YAG z0 k a.1 a.2):=fun z0 _ a=>by kernel_rfl
 fn_ok (hc EAT hl_nil) Tryz.func174 (fun s s' h=>by cases s;cases s';(repeat cases ‹SFile›);cases h;rfl) (fun _=>rfl) (fun _ _=>rfl) (b Yg) (e Yg) gas
noncomputable def AAd {γ:Type} (F:XAG):Hd ctx γ:=hdl cv49.dec (fun a=>F a.1 a.2) cv38.enc
abbrev X9:=SDisk→SAct→Option (SDisk×Bool)
noncomputable def AAH (z0:Ho) (z1:Eo) (z2:Gt) (z3:XAG) (z4:Ht) (d_0:SDisk) (a_1:SAct):Option (SDisk×Bool):=
 (z0 d_0 a_1.fName).bind fun r0=>
 (z1 d_0).bind fun r1=>
 bif (!r1) then
 some (⟨[]⟩,false)
 else
 bif (a_1.fKind != 1) then
  bif (decide (r0<0)) then
  some (⟨[]⟩,false)
  else
  bif (!((ByteArray.toList a_1.fText) == (ByteArray.toList ⟨#[]⟩))) then
   some (⟨[]⟩,false)
  else
   bif (a_1.fKind != 3) then
   bif (!((ByteArray.toList a_1.fTo) == (ByteArray.toList ⟨#[]⟩))) then
    some (⟨[]⟩,false)
   else
    (z2 d_0).bind fun r2=>
    bif (decide (r0≥0)) then
    bif ((decide (0≤r0)) && (decide (r0<(d_0.fFiles.length:Int)))) then
    bif (a_1.fKind == 1) then
     bif (decide (((d_0.fFiles.getD r0.toNat (⟨⟨#[]⟩,⟨#[]⟩,0⟩:SFile)).fText.size+a_1.fText.size)≤9223372036854775807)) then
     (z3 r2 ⟨(d_0.fFiles.getD r0.toNat (⟨⟨#[]⟩,⟨#[]⟩,0⟩:SFile)).fName,((d_0.fFiles.getD r0.toNat (⟨⟨#[]⟩,⟨#[]⟩,0⟩:SFile)).fText++a_1.fText),(d_0.fFiles.getD r0.toNat (⟨⟨#[]⟩,⟨#[]⟩,0⟩:SFile)).fKept⟩).bind fun r3=>
     (z1 r3).bind fun r4=>
     bif (!r4) then
     some (⟨[]⟩,false)
     else
     some (r3,true)
     else none
    else
     bif (a_1.fKind == 2) then
     (z3 r2 ⟨(d_0.fFiles.getD r0.toNat (⟨⟨#[]⟩,⟨#[]⟩,0⟩:SFile)).fName,(d_0.fFiles.getD r0.toNat (⟨⟨#[]⟩,⟨#[]⟩,0⟩:SFile)).fText,((d_0.fFiles.getD r0.toNat (⟨⟨#[]⟩,⟨#[]⟩,0⟩:SFile)).fText.size:Int)⟩).bind fun r5=>
     (z1 r5).bind fun r6=>
     bif (!r6) then
      some (⟨[]⟩,false)
     else
      some (r5,true)
     else
     bif (a_1.fKind == 3) then
      bif ((d_0.fFiles.getD r0.toNat (⟨⟨#[]⟩,⟨#[]⟩,0⟩:SFile)).fKept != ((d_0.fFiles.getD r0.toNat (⟨⟨#[]⟩,⟨#[]⟩,0⟩:SFile)).fText.size:Int)) then
      some (⟨[]⟩,false)
      else
      bif ((ByteArray.toList a_1.fTo) == (ByteArray.toList a_1.fName)) then
       some (⟨[]⟩,false)
      else
       (z4 r2 a_1.fName).bind fun r7=>
       (z3 r7 ⟨a_1.fTo,(d_0.fFiles.getD r0.toNat (⟨⟨#[]⟩,⟨#[]⟩,0⟩:SFile)).fText,(d_0.fFiles.getD r0.toNat (⟨⟨#[]⟩,⟨#[]⟩,0⟩:SFile)).fKept⟩).bind fun r8=>
       (z1 r8).bind fun r9=>
       bif (!r9) then
       some (⟨[]⟩,false)
       else
       some (r8,true)
     else
      bif (a_1.fKind == 4) then
      (z4 r2 a_1.fName).bind fun r10=>
      (z1 r10).bind fun r11=>
      bif (!r11) then
       some (⟨[]⟩,false)
      else
       some (r10,true)
      else
      some (⟨[]⟩,false)
    else none
    else
    bif (a_1.fKind == 1) then
     bif (decide (((⟨#[]⟩:ByteArray).size+a_1.fText.size)≤9223372036854775807)) then
     (z3 r2 ⟨a_1.fName,((⟨#[]⟩:ByteArray)++a_1.fText),0⟩).bind fun r12=>
     (z1 r12).bind fun r13=>
     bif (!r13) then
     some (⟨[]⟩,false)
     else
     some (r12,true)
     else none
    else
     bif (a_1.fKind == 2) then
     (z3 r2 ⟨a_1.fName,⟨#[]⟩,((⟨#[]⟩:ByteArray).size:Int)⟩).bind fun r14=>
     (z1 r14).bind fun r15=>
     bif (!r15) then
      some (⟨[]⟩,false)
     else
      some (r14,true)
     else
     bif (a_1.fKind == 3) then
      bif ((ByteArray.toList a_1.fTo) == (ByteArray.toList a_1.fName)) then
      some (⟨[]⟩,false)
      else
      (z4 r2 a_1.fName).bind fun r16=>
      (z3 r16 ⟨a_1.fTo,⟨#[]⟩,0⟩).bind fun r17=>
      (z1 r17).bind fun r18=>
      bif (!r18) then
       some (⟨[]⟩,false)
      else
       some (r17,true)
     else
      bif (a_1.fKind == 4) then
      (z4 r2 a_1.fName).bind fun r19=>
      (z1 r19).bind fun r20=>
      bif (!r20) then
       some (⟨[]⟩,false)
      else
       some (r19,true)
      else
      some (⟨[]⟩,false)
   else
   (z2 d_0).bind fun r21=>
   bif (decide (r0≥0)) then
    bif ((decide (0≤r0)) && (decide (r0<(d_0.fFiles.length:Int)))) then
    bif (a_1.fKind == 1) then
    bif (decide (((d_0.fFiles.getD r0.toNat (⟨⟨#[]⟩,⟨#[]⟩,0⟩:SFile)).fText.size+a_1.fText.size)≤9223372036854775807)) then
    (z3 r21 ⟨(d_0.fFiles.getD r0.toNat (⟨⟨#[]⟩,⟨#[]⟩,0⟩:SFile)).fName,((d_0.fFiles.getD r0.toNat (⟨⟨#[]⟩,⟨#[]⟩,0⟩:SFile)).fText++a_1.fText),(d_0.fFiles.getD r0.toNat (⟨⟨#[]⟩,⟨#[]⟩,0⟩:SFile)).fKept⟩).bind fun r22=>
    (z1 r22).bind fun r23=>
    bif (!r23) then
     some (⟨[]⟩,false)
    else
     some (r22,true)
    else none
    else
    bif (a_1.fKind == 2) then
     (z3 r21 ⟨(d_0.fFiles.getD r0.toNat (⟨⟨#[]⟩,⟨#[]⟩,0⟩:SFile)).fName,(d_0.fFiles.getD r0.toNat (⟨⟨#[]⟩,⟨#[]⟩,0⟩:SFile)).fText,((d_0.fFiles.getD r0.toNat (⟨⟨#[]⟩,⟨#[]⟩,0⟩:SFile)).fText.size:Int)⟩).bind fun r24=>
     (z1 r24).bind fun r25=>
     bif (!r25) then
     some (⟨[]⟩,false)
     else
     some (r24,true)
    else
     bif (a_1.fKind == 3) then
     bif ((d_0.fFiles.getD r0.toNat (⟨⟨#[]⟩,⟨#[]⟩,0⟩:SFile)).fKept != ((d_0.fFiles.getD r0.toNat (⟨⟨#[]⟩,⟨#[]⟩,0⟩:SFile)).fText.size:Int)) then
      some (⟨[]⟩,false)
     else
      bif ((ByteArray.toList a_1.fTo) == (ByteArray.toList a_1.fName)) then
      some (⟨[]⟩,false)
      else
      (z4 r21 a_1.fName).bind fun r26=>
      (z3 r26 ⟨a_1.fTo,(d_0.fFiles.getD r0.toNat (⟨⟨#[]⟩,⟨#[]⟩,0⟩:SFile)).fText,(d_0.fFiles.getD r0.toNat (⟨⟨#[]⟩,⟨#[]⟩,0⟩:SFile)).fKept⟩).bind fun r27=>
      (z1 r27).bind fun r28=>
      bif (!r28) then
       some (⟨[]⟩,false)
      else
       some (r27,true)
     else
     bif (a_1.fKind == 4) then
      (z4 r21 a_1.fName).bind fun r29=>
      (z1 r29).bind fun r30=>
      bif (!r30) then
      some (⟨[]⟩,false)
      else
      some (r29,true)
     else
      some (⟨[]⟩,false)
    else none
   else
    bif (a_1.fKind == 1) then
    bif (decide (((⟨#[]⟩:ByteArray).size+a_1.fText.size)≤9223372036854775807)) then
    (z3 r21 ⟨a_1.fName,((⟨#[]⟩:ByteArray)++a_1.fText),0⟩).bind fun r31=>
    (z1 r31).bind fun r32=>
    bif (!r32) then
     some (⟨[]⟩,false)
    else
     some (r31,true)
    else none
    else
    bif (a_1.fKind == 2) then
     (z3 r21 ⟨a_1.fName,⟨#[]⟩,((⟨#[]⟩:ByteArray).size:Int)⟩).bind fun r33=>
     (z1 r33).bind fun r34=>
     bif (!r34) then
     some (⟨[]⟩,false)
     else
     some (r33,true)
    else
     bif (a_1.fKind == 3) then
     bif ((ByteArray.toList a_1.fTo) == (ByteArray.toList a_1.fName)) then
      some (⟨[]⟩,false)
     else
      (z4 r21 a_1.fName).bind fun r35=>
      (z3 r35 ⟨a_1.fTo,⟨#[]⟩,0⟩).bind fun r36=>
      (z1 r36).bind fun r37=>
      bif (!r37) then
      some (⟨[]⟩,false)
      else
      some (r36,true)
     else
     bif (a_1.fKind == 4) then
      (z4 r21 a_1.fName).bind fun r38=>
      (z1 r38).bind fun r39=>
      bif (!r39) then
      some (⟨[]⟩,false)
      else
      some (r38,true)
     else
      some (⟨[]⟩,false)
 else
  bif (a_1.fKind != 3) then
  bif (!((ByteArray.toList a_1.fTo) == (ByteArray.toList ⟨#[]⟩))) then
   some (⟨[]⟩,false)
  else
   (z2 d_0).bind fun r40=>
   bif (decide (r0≥0)) then
   bif ((decide (0≤r0)) && (decide (r0<(d_0.fFiles.length:Int)))) then
   bif (a_1.fKind == 1) then
    bif (decide (((d_0.fFiles.getD r0.toNat (⟨⟨#[]⟩,⟨#[]⟩,0⟩:SFile)).fText.size+a_1.fText.size)≤9223372036854775807)) then
    (z3 r40 ⟨(d_0.fFiles.getD r0.toNat (⟨⟨#[]⟩,⟨#[]⟩,0⟩:SFile)).fName,((d_0.fFiles.getD r0.toNat (⟨⟨#[]⟩,⟨#[]⟩,0⟩:SFile)).fText++a_1.fText),(d_0.fFiles.getD r0.toNat (⟨⟨#[]⟩,⟨#[]⟩,0⟩:SFile)).fKept⟩).bind fun r41=>
    (z1 r41).bind fun r42=>
    bif (!r42) then
    some (⟨[]⟩,false)
    else
    some (r41,true)
    else none
   else
    bif (a_1.fKind == 2) then
    (z3 r40 ⟨(d_0.fFiles.getD r0.toNat (⟨⟨#[]⟩,⟨#[]⟩,0⟩:SFile)).fName,(d_0.fFiles.getD r0.toNat (⟨⟨#[]⟩,⟨#[]⟩,0⟩:SFile)).fText,((d_0.fFiles.getD r0.toNat (⟨⟨#[]⟩,⟨#[]⟩,0⟩:SFile)).fText.size:Int)⟩).bind fun r43=>
    (z1 r43).bind fun r44=>
    bif (!r44) then
     some (⟨[]⟩,false)
    else
     some (r43,true)
    else
    bif (a_1.fKind == 3) then
     bif ((d_0.fFiles.getD r0.toNat (⟨⟨#[]⟩,⟨#[]⟩,0⟩:SFile)).fKept != ((d_0.fFiles.getD r0.toNat (⟨⟨#[]⟩,⟨#[]⟩,0⟩:SFile)).fText.size:Int)) then
     some (⟨[]⟩,false)
     else
     bif ((ByteArray.toList a_1.fTo) == (ByteArray.toList a_1.fName)) then
      some (⟨[]⟩,false)
     else
      (z4 r40 a_1.fName).bind fun r45=>
      (z3 r45 ⟨a_1.fTo,(d_0.fFiles.getD r0.toNat (⟨⟨#[]⟩,⟨#[]⟩,0⟩:SFile)).fText,(d_0.fFiles.getD r0.toNat (⟨⟨#[]⟩,⟨#[]⟩,0⟩:SFile)).fKept⟩).bind fun r46=>
      (z1 r46).bind fun r47=>
      bif (!r47) then
      some (⟨[]⟩,false)
      else
      some (r46,true)
    else
     bif (a_1.fKind == 4) then
     (z4 r40 a_1.fName).bind fun r48=>
     (z1 r48).bind fun r49=>
     bif (!r49) then
      some (⟨[]⟩,false)
     else
      some (r48,true)
     else
     some (⟨[]⟩,false)
   else none
   else
   bif (a_1.fKind == 1) then
    bif (decide (((⟨#[]⟩:ByteArray).size+a_1.fText.size)≤9223372036854775807)) then
    (z3 r40 ⟨a_1.fName,((⟨#[]⟩:ByteArray)++a_1.fText),0⟩).bind fun r50=>
    (z1 r50).bind fun r51=>
    bif (!r51) then
    some (⟨[]⟩,false)
    else
    some (r50,true)
    else none
   else
    bif (a_1.fKind == 2) then
    (z3 r40 ⟨a_1.fName,⟨#[]⟩,((⟨#[]⟩:ByteArray).size:Int)⟩).bind fun r52=>
    (z1 r52).bind fun r53=>
    bif (!r53) then
     some (⟨[]⟩,false)
    else
     some (r52,true)
    else
    bif (a_1.fKind == 3) then
     bif ((ByteArray.toList a_1.fTo) == (ByteArray.toList a_1.fName)) then
     some (⟨[]⟩,false)
     else
     (z4 r40 a_1.fName).bind fun r54=>
     (z3 r54 ⟨a_1.fTo,⟨#[]⟩,0⟩).bind fun r55=>
     (z1 r55).bind fun r56=>
     bif (!r56) then
      some (⟨[]⟩,false)
     else
      some (r55,true)
    else
     bif (a_1.fKind == 4) then
     (z4 r40 a_1.fName).bind fun r57=>
     (z1 r57).bind fun r58=>
     bif (!r58) then
      some (⟨[]⟩,false)
     else
      some (r57,true)
     else
     some (⟨[]⟩,false)
  else
  (z2 d_0).bind fun r59=>
  bif (decide (r0≥0)) then
   bif ((decide (0≤r0)) && (decide (r0<(d_0.fFiles.length:Int)))) then
   bif (a_1.fKind == 1) then
   bif (decide (((d_0.fFiles.getD r0.toNat (⟨⟨#[]⟩,⟨#[]⟩,0⟩:SFile)).fText.size+a_1.fText.size)≤9223372036854775807)) then
   (z3 r59 ⟨(d_0.fFiles.getD r0.toNat (⟨⟨#[]⟩,⟨#[]⟩,0⟩:SFile)).fName,((d_0.fFiles.getD r0.toNat (⟨⟨#[]⟩,⟨#[]⟩,0⟩:SFile)).fText++a_1.fText),(d_0.fFiles.getD r0.toNat (⟨⟨#[]⟩,⟨#[]⟩,0⟩:SFile)).fKept⟩).bind fun r60=>
   (z1 r60).bind fun r61=>
   bif (!r61) then
    some (⟨[]⟩,false)
   else
    some (r60,true)
   else none
   else
   bif (a_1.fKind == 2) then
    (z3 r59 ⟨(d_0.fFiles.getD r0.toNat (⟨⟨#[]⟩,⟨#[]⟩,0⟩:SFile)).fName,(d_0.fFiles.getD r0.toNat (⟨⟨#[]⟩,⟨#[]⟩,0⟩:SFile)).fText,((d_0.fFiles.getD r0.toNat (⟨⟨#[]⟩,⟨#[]⟩,0⟩:SFile)).fText.size:Int)⟩).bind fun r62=>
    (z1 r62).bind fun r63=>
    bif (!r63) then
    some (⟨[]⟩,false)
    else
    some (r62,true)
   else
    bif (a_1.fKind == 3) then
    bif ((d_0.fFiles.getD r0.toNat (⟨⟨#[]⟩,⟨#[]⟩,0⟩:SFile)).fKept != ((d_0.fFiles.getD r0.toNat (⟨⟨#[]⟩,⟨#[]⟩,0⟩:SFile)).fText.size:Int)) then
     some (⟨[]⟩,false)
    else
     bif ((ByteArray.toList a_1.fTo) == (ByteArray.toList a_1.fName)) then
     some (⟨[]⟩,false)
     else
     (z4 r59 a_1.fName).bind fun r64=>
     (z3 r64 ⟨a_1.fTo,(d_0.fFiles.getD r0.toNat (⟨⟨#[]⟩,⟨#[]⟩,0⟩:SFile)).fText,(d_0.fFiles.getD r0.toNat (⟨⟨#[]⟩,⟨#[]⟩,0⟩:SFile)).fKept⟩).bind fun r65=>
     (z1 r65).bind fun r66=>
     bif (!r66) then
      some (⟨[]⟩,false)
     else
      some (r65,true)
    else
    bif (a_1.fKind == 4) then
     (z4 r59 a_1.fName).bind fun r67=>
     (z1 r67).bind fun r68=>
     bif (!r68) then
     some (⟨[]⟩,false)
     else
     some (r67,true)
    else
     some (⟨[]⟩,false)
   else none
  else
   bif (a_1.fKind == 1) then
   bif (decide (((⟨#[]⟩:ByteArray).size+a_1.fText.size)≤9223372036854775807)) then
   (z3 r59 ⟨a_1.fName,((⟨#[]⟩:ByteArray)++a_1.fText),0⟩).bind fun r69=>
   (z1 r69).bind fun r70=>
   bif (!r70) then
    some (⟨[]⟩,false)
   else
    some (r69,true)
   else none
   else
   bif (a_1.fKind == 2) then
    (z3 r59 ⟨a_1.fName,⟨#[]⟩,((⟨#[]⟩:ByteArray).size:Int)⟩).bind fun r71=>
    (z1 r71).bind fun r72=>
    bif (!r72) then
    some (⟨[]⟩,false)
    else
    some (r71,true)
   else
    bif (a_1.fKind == 3) then
    bif ((ByteArray.toList a_1.fTo) == (ByteArray.toList a_1.fName)) then
     some (⟨[]⟩,false)
    else
     (z4 r59 a_1.fName).bind fun r73=>
     (z3 r73 ⟨a_1.fTo,⟨#[]⟩,0⟩).bind fun r74=>
     (z1 r74).bind fun r75=>
     bif (!r75) then
     some (⟨[]⟩,false)
     else
     some (r74,true)
    else
    bif (a_1.fKind == 4) then
     (z4 r59 a_1.fName).bind fun r76=>
     (z1 r76).bind fun r77=>
     bif (!r77) then
     some (⟨[]⟩,false)
     else
     some (r76,true)
    else
     some (⟨[]⟩,false)
noncomputable def Nj:X9:=AAH Ld Jd Xg Ot Yg
theorem BAd:Tells ctx PP 139 cv39 cv40 (fun a=>Nj a.1 a.2):=fn_ok0 (hc N9 (hc LAG (hc DAT (hc ZAc (hc EAT hl_nil))))) Tryz.func139 ((fun z0 z1 z2 z3 z4 a=>by kernel_rfl:∀ z0 z1 z2 z3 z4,EntryIs0 ctx PP 139 [] [(128,P9 z0),(59,O9 z1),(138,UAG z2),(174,AAd z3),(175,WAG z4)] cv39 cv40 fun a=>AAH z0 z1 z2 z3 z4 a.1 a.2) Ld Jd Xg Ot Yg)
noncomputable def GAT {γ:Type} (F:X9):Hd ctx γ:=hdl cv39.dec (fun a=>F a.1 a.2) cv40.enc
abbrev BAH:=SDisk→(List SAct)→Option (SDisk×Int)
inductive Rt where
 | c0 (list_1:(List SAct)) (v_13:(List SAct)) (v_14:Int) (v_15:Int) (v_4r0:(List SFile)) (out_6r0:(List SFile))
noncomputable def IAT:Rt→LI
 | .c0 list_1 v_13 v_14 v_15 v_4r0 out_6r0=>(tdo Tryz.f80 232,[(1,[.one (.rsl 162 list_1)]),(4,[.one (.ptr 256 0)]),(6,[.one (.ptr 384 0)]),(13,[.one (.rsl 162 v_13)]),(14,[.one (.int .i64 v_14)]),(15,[.one (.int .i64 v_15)])],[(256,.var [.own 1016384]),(384,.var [.own 1024576]),(1016384,.sl 155 v_4r0),(1024576,.sl 155 out_6r0)])
noncomputable def CAH (z0:Gt) (z1:X9) (k:Rt→Option (SDisk×Int)) (d_0:SDisk) (list_1:(List SAct)):Option (SDisk×Int):=
 (z0 d_0).bind fun r0=>
 k (.c0 list_1 list_1 (list_1.length:Int) 0 [] r0.fFiles)
noncomputable def Y9 (z0:Gt) (z1:X9) (k:Rt→Option (SDisk×Int)):Rt→Option (SDisk×Int)
 | .c0 list_1 v_13 v_14 v_15 v_4r0 out_6r0=>
 bif (decide (v_15<v_14)) then
  bif ((decide (0≤v_15)) && (decide (v_15<(v_13.length:Int)))) then
  (z1 ⟨out_6r0⟩ (v_13.getD v_15.toNat (⟨0,⟨#[]⟩,⟨#[]⟩,⟨#[]⟩⟩:SAct))).bind fun r0=>
  bif (!r0.2) then
  some (⟨out_6r0⟩,v_15)
  else
  k (.c0 list_1 v_13 v_14 (w64 (v_15+1)) v_4r0 r0.1.fFiles)
  else none
 else
  some (⟨out_6r0⟩,(list_1.length:Int))
noncomputable def Tt:Nat→Rt→Option (SDisk×Int)
 | 0,_=>none
 | m+1,s=>Y9 Xg Nj (Tt m) s
noncomputable def Ut:BAH:=CAH Xg Nj (Tt gas)
theorem CAd:Tells ctx PP 80 cv41 cv42 (fun a=>Ut a.1 a.2):=
 have b:∀ z0 z1,CutIs ctx PP 80 Tryz.f80 [] [(138,UAG z0),(139,GAT z1)] cv42 IAT (Y9 z0 z1):=fun z0 z1 _ s=>by cases s <;> kernel_rfl
 have e:∀ z0 z1,EntryIs ctx PP 80 [] [(138,UAG z0),(139,GAT z1)] cv41 cv42 IAT (fun k a=>CAH z0 z1 k a.1 a.2):=fun z0 z1 _ a=>by kernel_rfl
 fn_ok (hc DAT (hc BAd hl_nil)) Tryz.func80 (fun s s' h=>by cases s;cases s';cases h;rfl) (fun _=>rfl) (fun _ _=>rfl) (b Xg Nj) (e Xg Nj) gas
noncomputable def DAd {γ:Type} (F:BAH):Hd ctx γ:=hdl cv41.dec (fun a=>F a.1 a.2) cv42.enc
abbrev DAH:=SBox→Option (SBox×Bool)
noncomputable def EAH (z0:QAG) (z1:Gs) (z2:BAH) (b_0:SBox):Option (SBox×Bool):=
 bif b_0.fUp then
 some (⟨⟨#[]⟩,false,⟨[]⟩,⟨⟨#[]⟩,0,[],0,⟨#[]⟩,0⟩,[],[],0⟩,false)
 else
 (z0 b_0).bind fun r0=>
 bif (!r0) then
  some (⟨⟨#[]⟩,false,⟨[]⟩,⟨⟨#[]⟩,0,[],0,⟨#[]⟩,0⟩,[],[],0⟩,false)
 else
  (z1 b_0.fKey b_0.fDisk).bind fun r1=>
  (z2 b_0.fDisk r1.2.1).bind fun r2=>
  bif (!r1.2.2) then
  some (⟨⟨#[]⟩,false,⟨[]⟩,⟨⟨#[]⟩,0,[],0,⟨#[]⟩,0⟩,[],[],0⟩,false)
  else
  bif (decide (r2.2<(r1.2.1.length:Int))) then
   some (⟨⟨#[]⟩,false,⟨[]⟩,⟨⟨#[]⟩,0,[],0,⟨#[]⟩,0⟩,[],[],0⟩,false)
  else
   some (⟨b_0.fKey,true,r2.1,r1.1,[],[],0⟩,true)
noncomputable def Vt:DAH:=EAH Et Ug Ut
theorem EAd:Tells ctx PP 23 cv116 cv44 (fun a=>Vt a):=fn_ok0 (hc WAc (hc VAS (hc CAd hl_nil))) Tryz.func23 ((fun z0 z1 z2 a=>by kernel_rfl:∀ z0 z1 z2,EntryIs0 ctx PP 23 [] [(16,YAc z0),(62,NAG z1),(80,DAd z2)] cv116 cv44 fun a=>EAH z0 z1 z2 a) Et Ug Ut)
noncomputable def FAd {γ:Type} (F:DAH):Hd ctx γ:=hdl cv116.dec (fun a=>F a) cv44.enc
abbrev Z9:=SFile→SFile→Option Bool
noncomputable def FAH (a_0:SFile) (b_1:SFile):Option Bool:=
 bif (!((ByteArray.toList a_0.fName) == (ByteArray.toList b_1.fName))) then
 some false
 else
 bif (!((ByteArray.toList a_0.fText) == (ByteArray.toList b_1.fText))) then
  some false
 else
  bif (a_0.fKept != b_1.fKept) then
  some false
  else
  some true
noncomputable def Oj:Z9:=FAH
theorem GAd:Tells ctx PP 159 cv54 cv6 (fun a=>Oj a.1 a.2):=fn_ok0 hl_nil Tryz.func159 (fun a=>by kernel_rfl:EntryIs0 ctx PP 159 [] [] cv54 cv6 fun a=>FAH a.1 a.2)
noncomputable def JAT {γ:Type} (F:Z9):Hd ctx γ:=hdl cv54.dec (fun a=>F a.1 a.2) cv6.enc
abbrev GAH:=(List SFile)→(List SFile)→Option Bool
inductive Xt where
 | c0 (a_0:(List SFile)) (b_1:(List SFile)) (i_5:Int)
noncomputable def KAT:Xt→LI
 | .c0 a_0 b_1 i_5=>(tdo Tryz.f106 464,[(0,[.one (.rsl 155 a_0)]),(1,[.one (.rsl 155 b_1)]),(5,[.one (.int .i64 i_5)])],[])
noncomputable def HAH (z0:Z9) (k:Xt→Option Bool) (a_0:(List SFile)) (b_1:(List SFile)):Option Bool:=
 bif ((a_0.length:Int) != (b_1.length:Int)) then
 some false
 else
 k (.c0 a_0 b_1 0)
noncomputable def AAA (z0:Z9) (k:Xt→Option Bool):Xt→Option Bool
 | .c0 a_0 b_1 i_5=>
 bif (decide (i_5<(a_0.length:Int))) then
  bif ((decide (0≤i_5)) && (decide (i_5<(a_0.length:Int)))) then
  bif ((decide (0≤i_5)) && (decide (i_5<(b_1.length:Int)))) then
  (z0 (a_0.getD i_5.toNat (⟨⟨#[]⟩,⟨#[]⟩,0⟩:SFile)) (b_1.getD i_5.toNat (⟨⟨#[]⟩,⟨#[]⟩,0⟩:SFile))).bind fun r0=>
  bif (!r0) then
  some false
  else
  k (.c0 a_0 b_1 (w64 (i_5+1)))
  else none
  else none
 else
  some true
noncomputable def Io:Nat→Xt→Option Bool
 | 0,_=>none
 | m+1,s=>AAA Oj (Io m) s
noncomputable def Yt:GAH:=HAH Oj (Io gas)
theorem HAd:Tells ctx PP 106 cv55 cv6 (fun a=>Yt a.1 a.2):=
 have b:∀ z0,CutIs ctx PP 106 Tryz.f106 [] [(159,JAT z0)] cv6 KAT (AAA z0):=fun z0 _ s=>by cases s <;> kernel_rfl
 have e:∀ z0,EntryIs ctx PP 106 [] [(159,JAT z0)] cv55 cv6 KAT (fun k a=>HAH z0 k a.1 a.2):=fun z0 _ a=>by kernel_rfl
 fn_ok (hc GAd hl_nil) Tryz.func106 (fun s s' h=>by cases s;cases s';cases h;rfl) (fun _=>rfl) (fun _ _=>rfl) (b Oj) (e Oj) gas
noncomputable def IAd {γ:Type} (F:GAH):Hd ctx γ:=hdl cv55.dec (fun a=>F a.1 a.2) cv6.enc
abbrev IAH:=SDisk→SDisk→Option Bool
noncomputable def JAH (z0:GAH) (a_0:SDisk) (b_1:SDisk):Option Bool:=
 (z0 a_0.fFiles b_1.fFiles).bind fun r0=>
 bif (!r0) then
 some false
 else
 some true
noncomputable def Zt:IAH:=JAH Yt
theorem JAd:Tells ctx PP 33 cv56 cv6 (fun a=>Zt a.1 a.2):=fn_ok0 (hc HAd hl_nil) Tryz.func33 ((fun z0 a=>by kernel_rfl:∀ z0,EntryIs0 ctx PP 33 [] [(106,IAd z0)] cv56 cv6 fun a=>JAH z0 a.1 a.2) Yt)
noncomputable def KAd {γ:Type} (F:IAH):Hd ctx γ:=hdl cv56.dec (fun a=>F a.1 a.2) cv6.enc
abbrev BAA:=SThing→SThing→Option Bool
noncomputable def KAH (a_0:SThing) (b_1:SThing):Option Bool:=
 bif (a_0.fId != b_1.fId) then
 some false
 else
 bif (a_0.fKind != b_1.fKind) then
  some false
 else
  bif (!(a_0.fHidden == b_1.fHidden)) then
  some false
  else
  bif (!(a_0.fFixed == b_1.fFixed)) then
   some false
  else
   bif (!(a_0.fSigns == b_1.fSigns)) then
   some false
   else
   bif (!(a_0.fWraps == b_1.fWraps)) then
    some false
   else
    bif (!((ByteArray.toList a_0.fValue) == (ByteArray.toList b_1.fValue))) then
    some false
    else
    bif (a_0.fNext != b_1.fNext) then
     some false
    else
     some true
noncomputable def Pj:BAA:=KAH
theorem LAd:Tells ctx PP 160 cv23 cv6 (fun a=>Pj a.1 a.2):=fn_ok0 hl_nil Tryz.func160 (fun a=>by kernel_rfl:EntryIs0 ctx PP 160 [] [] cv23 cv6 fun a=>KAH a.1 a.2)
noncomputable def LAT {γ:Type} (F:BAA):Hd ctx γ:=hdl cv23.dec (fun a=>F a.1 a.2) cv6.enc
abbrev LAH:=(List SThing)→(List SThing)→Option Bool
inductive Au where
 | c0 (a_0:(List SThing)) (b_1:(List SThing)) (i_5:Int)
noncomputable def MAT:Au→LI
 | .c0 a_0 b_1 i_5=>(tdo Tryz.f107 464,[(0,[.one (.rsl 69 a_0)]),(1,[.one (.rsl 69 b_1)]),(5,[.one (.int .i64 i_5)])],[])
noncomputable def MAH (z0:BAA) (k:Au→Option Bool) (a_0:(List SThing)) (b_1:(List SThing)):Option Bool:=
 bif ((a_0.length:Int) != (b_1.length:Int)) then
 some false
 else
 k (.c0 a_0 b_1 0)
noncomputable def CAA (z0:BAA) (k:Au→Option Bool):Au→Option Bool
 | .c0 a_0 b_1 i_5=>
 bif (decide (i_5<(a_0.length:Int))) then
  bif ((decide (0≤i_5)) && (decide (i_5<(a_0.length:Int)))) then
  bif ((decide (0≤i_5)) && (decide (i_5<(b_1.length:Int)))) then
  (z0 (a_0.getD i_5.toNat (⟨0,0,false,false,false,false,⟨#[]⟩,0⟩:SThing)) (b_1.getD i_5.toNat (⟨0,0,false,false,false,false,⟨#[]⟩,0⟩:SThing))).bind fun r0=>
  bif (!r0) then
  some false
  else
  k (.c0 a_0 b_1 (w64 (i_5+1)))
  else none
  else none
 else
  some true
noncomputable def Jo:Nat→Au→Option Bool
 | 0,_=>none
 | m+1,s=>CAA Pj (Jo m) s
noncomputable def Du:LAH:=MAH Pj (Jo gas)
theorem MAd:Tells ctx PP 107 cv57 cv6 (fun a=>Du a.1 a.2):=
 have b:∀ z0,CutIs ctx PP 107 Tryz.f107 [] [(160,LAT z0)] cv6 MAT (CAA z0):=fun z0 _ s=>by cases s <;> kernel_rfl
 have e:∀ z0,EntryIs ctx PP 107 [] [(160,LAT z0)] cv57 cv6 MAT (fun k a=>MAH z0 k a.1 a.2):=fun z0 _ a=>by kernel_rfl
 fn_ok (hc LAd hl_nil) Tryz.func107 (fun s s' h=>by cases s;cases s';cases h;rfl) (fun _=>rfl) (fun _ _=>rfl) (b Pj) (e Pj) gas
noncomputable def NAd {γ:Type} (F:LAH):Hd ctx γ:=hdl cv57.dec (fun a=>F a.1 a.2) cv6.enc
abbrev NAH:=SBook→SBook→Option Bool
noncomputable def OAH (z0:LAH) (a_0:SBook) (b_1:SBook):Option Bool:=
 bif (!((ByteArray.toList a_0.fWord) == (ByteArray.toList b_1.fWord))) then
 some false
 else
 bif (a_0.fTries != b_1.fTries) then
  some false
 else
  (z0 a_0.fThings b_1.fThings).bind fun r0=>
  bif (!r0) then
  some false
  else
  bif (a_0.fLast != b_1.fLast) then
   some false
  else
   bif (!((ByteArray.toList a_0.fChain) == (ByteArray.toList b_1.fChain))) then
   some false
   else
   bif (a_0.fCount != b_1.fCount) then
    some false
   else
    some true
noncomputable def Eu:NAH:=OAH Du
theorem OAd:Tells ctx PP 34 cv58 cv6 (fun a=>Eu a.1 a.2):=fn_ok0 (hc MAd hl_nil) Tryz.func34 ((fun z0 a=>by kernel_rfl:∀ z0,EntryIs0 ctx PP 34 [] [(107,NAd z0)] cv58 cv6 fun a=>OAH z0 a.1 a.2) Du)
noncomputable def PAd {γ:Type} (F:NAH):Hd ctx γ:=hdl cv58.dec (fun a=>F a.1 a.2) cv6.enc
abbrev DAA:=SSession→SSession→Option Bool
noncomputable def PAH (a_0:SSession) (b_1:SSession):Option Bool:=
 bif (a_0.fId != b_1.fId) then
 some false
 else
 bif (!(a_0.fIn == b_1.fIn)) then
  some false
 else
  some true
noncomputable def Qj:DAA:=PAH
theorem QAd:Tells ctx PP 108 cv59 cv6 (fun a=>Qj a.1 a.2):=fn_ok0 hl_nil Tryz.func108 (fun a=>by kernel_rfl:EntryIs0 ctx PP 108 [] [] cv59 cv6 fun a=>PAH a.1 a.2)
noncomputable def NAT {γ:Type} (F:DAA):Hd ctx γ:=hdl cv59.dec (fun a=>F a.1 a.2) cv6.enc
abbrev QAH:=(List SSession)→(List SSession)→Option Bool
inductive Gu where
 | c0 (a_0:(List SSession)) (b_1:(List SSession)) (i_5:Int)
noncomputable def OAT:Gu→LI
 | .c0 a_0 b_1 i_5=>(tdo Tryz.f35 464,[(0,[.one (.rsl 92 a_0)]),(1,[.one (.rsl 92 b_1)]),(5,[.one (.int .i64 i_5)])],[])
noncomputable def RAH (z0:DAA) (k:Gu→Option Bool) (a_0:(List SSession)) (b_1:(List SSession)):Option Bool:=
 bif ((a_0.length:Int) != (b_1.length:Int)) then
 some false
 else
 k (.c0 a_0 b_1 0)
noncomputable def EAA (z0:DAA) (k:Gu→Option Bool):Gu→Option Bool
 | .c0 a_0 b_1 i_5=>
 bif (decide (i_5<(a_0.length:Int))) then
  bif ((decide (0≤i_5)) && (decide (i_5<(a_0.length:Int)))) then
  bif ((decide (0≤i_5)) && (decide (i_5<(b_1.length:Int)))) then
  (z0 (a_0.getD i_5.toNat (⟨0,false⟩:SSession)) (b_1.getD i_5.toNat (⟨0,false⟩:SSession))).bind fun r0=>
  bif (!r0) then
  some false
  else
  k (.c0 a_0 b_1 (w64 (i_5+1)))
  else none
  else none
 else
  some true
noncomputable def Ko:Nat→Gu→Option Bool
 | 0,_=>none
 | m+1,s=>EAA Qj (Ko m) s
noncomputable def Hu:QAH:=RAH Qj (Ko gas)
theorem RAd:Tells ctx PP 35 cv60 cv6 (fun a=>Hu a.1 a.2):=
 have b:∀ z0,CutIs ctx PP 35 Tryz.f35 [] [(108,NAT z0)] cv6 OAT (EAA z0):=fun z0 _ s=>by cases s <;> kernel_rfl
 have e:∀ z0,EntryIs ctx PP 35 [] [(108,NAT z0)] cv60 cv6 OAT (fun k a=>RAH z0 k a.1 a.2):=fun z0 _ a=>by kernel_rfl
 fn_ok (hc QAd hl_nil) Tryz.func35 (fun s s' h=>by cases s;cases s';cases h;rfl) (fun _=>rfl) (fun _ _=>rfl) (b Qj) (e Qj) gas
noncomputable def SAd {γ:Type} (F:QAH):Hd ctx γ:=hdl cv60.dec (fun a=>F a.1 a.2) cv6.enc
abbrev FAA:=SLive→SLive→Option Bool
noncomputable def SAH (a_0:SLive) (b_1:SLive):Option Bool:=
 bif (a_0.fId != b_1.fId) then
 some false
 else
 bif (a_0.fNext != b_1.fNext) then
  some false
 else
  some true
noncomputable def Rj:FAA:=SAH
theorem TAd:Tells ctx PP 109 cv61 cv6 (fun a=>Rj a.1 a.2):=fn_ok0 hl_nil Tryz.func109 (fun a=>by kernel_rfl:EntryIs0 ctx PP 109 [] [] cv61 cv6 fun a=>SAH a.1 a.2)
noncomputable def QAT {γ:Type} (F:FAA):Hd ctx γ:=hdl cv61.dec (fun a=>F a.1 a.2) cv6.enc
abbrev TAH:=(List SLive)→(List SLive)→Option Bool
inductive Iu where
 | c0 (a_0:(List SLive)) (b_1:(List SLive)) (i_5:Int)
noncomputable def TAT:Iu→LI
 | .c0 a_0 b_1 i_5=>(tdo Tryz.f36 464,[(0,[.one (.rsl 149 a_0)]),(1,[.one (.rsl 149 b_1)]),(5,[.one (.int .i64 i_5)])],[])
noncomputable def UAH (z0:FAA) (k:Iu→Option Bool) (a_0:(List SLive)) (b_1:(List SLive)):Option Bool:=
 bif ((a_0.length:Int) != (b_1.length:Int)) then
 some false
 else
 k (.c0 a_0 b_1 0)
noncomputable def GAA (z0:FAA) (k:Iu→Option Bool):Iu→Option Bool
 | .c0 a_0 b_1 i_5=>
 bif (decide (i_5<(a_0.length:Int))) then
  bif ((decide (0≤i_5)) && (decide (i_5<(a_0.length:Int)))) then
  bif ((decide (0≤i_5)) && (decide (i_5<(b_1.length:Int)))) then
  (z0 (a_0.getD i_5.toNat (⟨0,0⟩:SLive)) (b_1.getD i_5.toNat (⟨0,0⟩:SLive))).bind fun r0=>
  bif (!r0) then
  some false
  else
  k (.c0 a_0 b_1 (w64 (i_5+1)))
  else none
  else none
 else
  some true
noncomputable def Oo:Nat→Iu→Option Bool
 | 0,_=>none
 | m+1,s=>GAA Rj (Oo m) s
noncomputable def Ju:TAH:=UAH Rj (Oo gas)
theorem UAd:Tells ctx PP 36 cv62 cv6 (fun a=>Ju a.1 a.2):=
 have b:∀ z0,CutIs ctx PP 36 Tryz.f36 [] [(109,QAT z0)] cv6 TAT (GAA z0):=fun z0 _ s=>by cases s <;> kernel_rfl
 have e:∀ z0,EntryIs ctx PP 36 [] [(109,QAT z0)] cv62 cv6 TAT (fun k a=>UAH z0 k a.1 a.2):=fun z0 _ a=>by kernel_rfl
 fn_ok (hc TAd hl_nil) Tryz.func36 (fun s s' h=>by cases s;cases s';cases h;rfl) (fun _=>rfl) (fun _ _=>rfl) (b Rj) (e Rj) gas
noncomputable def VAd {γ:Type} (F:TAH):Hd ctx γ:=hdl cv62.dec (fun a=>F a.1 a.2) cv6.enc
abbrev VAH:=SBox→SBox→Option Bool
noncomputable def WAH (z0:IAH) (z1:NAH) (z2:QAH) (z3:TAH) (a_0:SBox) (b_1:SBox):Option Bool:=
 bif (!((ByteArray.toList a_0.fKey) == (ByteArray.toList b_1.fKey))) then
 some false
 else
 bif (!(a_0.fUp == b_1.fUp)) then
  some false
 else
  (z0 a_0.fDisk b_1.fDisk).bind fun r0=>
  bif (!r0) then
  some false
  else
  (z1 a_0.fBook b_1.fBook).bind fun r1=>
  bif (!r1) then
   some false
  else
   (z2 a_0.fSessions b_1.fSessions).bind fun r2=>
   bif (!r2) then
   some false
   else
   (z3 a_0.fLives b_1.fLives).bind fun r3=>
   bif (!r3) then
    some false
   else
    bif (a_0.fOpened != b_1.fOpened) then
    some false
    else
    some true
noncomputable def Ku:VAH:=WAH Zt Eu Hu Ju
theorem WAd:Tells ctx PP 10 cv63 cv6 (fun a=>Ku a.1 a.2):=fn_ok0 (hc JAd (hc OAd (hc RAd (hc UAd hl_nil)))) Tryz.func10 ((fun z0 z1 z2 z3 a=>by kernel_rfl:∀ z0 z1 z2 z3,EntryIs0 ctx PP 10 [] [(33,KAd z0),(34,PAd z1),(35,SAd z2),(36,VAd z3)] cv63 cv6 fun a=>WAH z0 z1 z2 z3 a.1 a.2) Zt Eu Hu Ju)
noncomputable def XAd {γ:Type} (F:VAH):Hd ctx γ:=hdl cv63.dec (fun a=>F a.1 a.2) cv6.enc
abbrev Gf:=Int→Option ByteArray
inductive Lu where
 | c0 (k_0:Int) (out_3:ByteArray)
noncomputable def UAT:Lu→LI
 | .c0 k_0 out_3=>(tdo Tryz.f161 480,[(0,[.one (.int .i64 k_0)]),(3,[.one (.str out_3)])],[])
noncomputable def XAH (k:Lu→Option ByteArray) (k_0:Int):Option ByteArray:=
 bif (decide (k_0≤0)) then
 some ⟨#[109,48]⟩
 else
 k (.c0 k_0 ⟨#[]⟩)
noncomputable def HAA (k:Lu→Option ByteArray):Lu→Option ByteArray
 | .c0 k_0 out_3=>
 bif (decide (k_0 > 0)) then
  bif (decide (((ofBytes [(w8 (w64 (48+(k_0.tmod 10))))]).size+out_3.size)≤9223372036854775807)) then
  k (.c0 (w64 (k_0.tdiv 10)) ((ofBytes [(w8 (w64 (48+(k_0.tmod 10))))])++out_3))
  else none
 else
  bif (decide (((⟨#[109]⟩:ByteArray).size+out_3.size)≤9223372036854775807)) then
  some ((⟨#[109]⟩:ByteArray)++out_3)
  else none
noncomputable def Nu:Nat→Lu→Option ByteArray
 | 0,_=>none
 | m+1,s=>HAA (Nu m) s
noncomputable def CZ:Gf:=XAH (Nu gas)
theorem IAA:Tells ctx PP 161 cv15 cv3 (fun a=>CZ a):=
 have b:CutIs ctx PP 161 Tryz.f161 [] [] cv3 UAT (HAA):=fun _ s=>by cases s <;> kernel_rfl
 have e:EntryIs ctx PP 161 [] [] cv15 cv3 UAT (fun k a=>XAH k a):=fun _ a=>by kernel_rfl
 fn_ok hl_nil Tryz.func161 (fun s s' h=>by cases s;cases s';cases h;rfl) (fun _=>rfl) (fun _ _=>rfl) b e gas
noncomputable def Ii {γ:Type} (F:Gf):Hd ctx γ:=hdl cv15.dec (fun a=>F a) cv3.enc
abbrev YAH:=(List SFile)→Int→Option (Int×(List SFile))
inductive Ou where
 | c0 (k_1:Int) (i_5:Int) (a_0r1:(List SFile))
noncomputable def VAT:Ou→LI
 | .c0 k_1 i_5 a_0r1=>(tdo Tryz.f110 208,[(0,[.one (.own 1)]),(1,[.one (.int .i64 k_1)]),(5,[.one (.int .i64 i_5)])],[(1,.io 155 a_0r1)])
noncomputable def ZAH (z0:Gf) (k:Ou→Option (Int×(List SFile))) (a_0:(List SFile)) (k_1:Int):Option (Int×(List SFile)):=
 k (.c0 k_1 0 a_0)
noncomputable def JAA (z0:Gf) (k:Ou→Option (Int×(List SFile))):Ou→Option (Int×(List SFile))
 | .c0 k_1 i_5 a_0r1=>
 bif (decide (i_5<(a_0r1.length:Int))) then
  (z0 k_1).bind fun r0=>
  bif ((decide (0≤i_5)) && (decide (i_5<(a_0r1.length:Int)))) then
  (z0 (w64 (k_1+1))).bind fun r1=>
  bif ((decide (0≤i_5)) && (decide (i_5<((a_0r1.set i_5.toNat (⟨r0,(a_0r1.getD i_5.toNat (⟨⟨#[]⟩,⟨#[]⟩,0⟩:SFile)).fText,(a_0r1.getD i_5.toNat (⟨⟨#[]⟩,⟨#[]⟩,0⟩:SFile)).fKept⟩:SFile)).length:Int)))) then
  bif ((decide (0≤i_5)) && (decide (i_5<(((a_0r1.set i_5.toNat (⟨r0,(a_0r1.getD i_5.toNat (⟨⟨#[]⟩,⟨#[]⟩,0⟩:SFile)).fText,(a_0r1.getD i_5.toNat (⟨⟨#[]⟩,⟨#[]⟩,0⟩:SFile)).fKept⟩:SFile)).set i_5.toNat (⟨((a_0r1.set i_5.toNat (⟨r0,(a_0r1.getD i_5.toNat (⟨⟨#[]⟩,⟨#[]⟩,0⟩:SFile)).fText,(a_0r1.getD i_5.toNat (⟨⟨#[]⟩,⟨#[]⟩,0⟩:SFile)).fKept⟩:SFile)).getD i_5.toNat (⟨⟨#[]⟩,⟨#[]⟩,0⟩:SFile)).fName,r1,((a_0r1.set i_5.toNat (⟨r0,(a_0r1.getD i_5.toNat (⟨⟨#[]⟩,⟨#[]⟩,0⟩:SFile)).fText,(a_0r1.getD i_5.toNat (⟨⟨#[]⟩,⟨#[]⟩,0⟩:SFile)).fKept⟩:SFile)).getD i_5.toNat (⟨⟨#[]⟩,⟨#[]⟩,0⟩:SFile)).fKept⟩:SFile)).length:Int)))) then
  k (.c0 (w64 ((w64 ((w64 (k_1+1))+1))+1)) (w64 (i_5+1)) (((a_0r1.set i_5.toNat (⟨r0,(a_0r1.getD i_5.toNat (⟨⟨#[]⟩,⟨#[]⟩,0⟩:SFile)).fText,(a_0r1.getD i_5.toNat (⟨⟨#[]⟩,⟨#[]⟩,0⟩:SFile)).fKept⟩:SFile)).set i_5.toNat (⟨((a_0r1.set i_5.toNat (⟨r0,(a_0r1.getD i_5.toNat (⟨⟨#[]⟩,⟨#[]⟩,0⟩:SFile)).fText,(a_0r1.getD i_5.toNat (⟨⟨#[]⟩,⟨#[]⟩,0⟩:SFile)).fKept⟩:SFile)).getD i_5.toNat (⟨⟨#[]⟩,⟨#[]⟩,0⟩:SFile)).fName,r1,((a_0r1.set i_5.toNat (⟨r0,(a_0r1.getD i_5.toNat (⟨⟨#[]⟩,⟨#[]⟩,0⟩:SFile)).fText,(a_0r1.getD i_5.toNat (⟨⟨#[]⟩,⟨#[]⟩,0⟩:SFile)).fKept⟩:SFile)).getD i_5.toNat (⟨⟨#[]⟩,⟨#[]⟩,0⟩:SFile)).fKept⟩:SFile)).set i_5.toNat (⟨(((a_0r1.set i_5.toNat (⟨r0,(a_0r1.getD i_5.toNat (⟨⟨#[]⟩,⟨#[]⟩,0⟩:SFile)).fText,(a_0r1.getD i_5.toNat (⟨⟨#[]⟩,⟨#[]⟩,0⟩:SFile)).fKept⟩:SFile)).set i_5.toNat (⟨((a_0r1.set i_5.toNat (⟨r0,(a_0r1.getD i_5.toNat (⟨⟨#[]⟩,⟨#[]⟩,0⟩:SFile)).fText,(a_0r1.getD i_5.toNat (⟨⟨#[]⟩,⟨#[]⟩,0⟩:SFile)).fKept⟩:SFile)).getD i_5.toNat (⟨⟨#[]⟩,⟨#[]⟩,0⟩:SFile)).fName,r1,((a_0r1.set i_5.toNat (⟨r0,(a_0r1.getD i_5.toNat (⟨⟨#[]⟩,⟨#[]⟩,0⟩:SFile)).fText,(a_0r1.getD i_5.toNat (⟨⟨#[]⟩,⟨#[]⟩,0⟩:SFile)).fKept⟩:SFile)).getD i_5.toNat (⟨⟨#[]⟩,⟨#[]⟩,0⟩:SFile)).fKept⟩:SFile)).getD i_5.toNat (⟨⟨#[]⟩,⟨#[]⟩,0⟩:SFile)).fName,(((a_0r1.set i_5.toNat (⟨r0,(a_0r1.getD i_5.toNat (⟨⟨#[]⟩,⟨#[]⟩,0⟩:SFile)).fText,(a_0r1.getD i_5.toNat (⟨⟨#[]⟩,⟨#[]⟩,0⟩:SFile)).fKept⟩:SFile)).set i_5.toNat (⟨((a_0r1.set i_5.toNat (⟨r0,(a_0r1.getD i_5.toNat (⟨⟨#[]⟩,⟨#[]⟩,0⟩:SFile)).fText,(a_0r1.getD i_5.toNat (⟨⟨#[]⟩,⟨#[]⟩,0⟩:SFile)).fKept⟩:SFile)).getD i_5.toNat (⟨⟨#[]⟩,⟨#[]⟩,0⟩:SFile)).fName,r1,((a_0r1.set i_5.toNat (⟨r0,(a_0r1.getD i_5.toNat (⟨⟨#[]⟩,⟨#[]⟩,0⟩:SFile)).fText,(a_0r1.getD i_5.toNat (⟨⟨#[]⟩,⟨#[]⟩,0⟩:SFile)).fKept⟩:SFile)).getD i_5.toNat (⟨⟨#[]⟩,⟨#[]⟩,0⟩:SFile)).fKept⟩:SFile)).getD i_5.toNat (⟨⟨#[]⟩,⟨#[]⟩,0⟩:SFile)).fText,(w64 ((w64 (k_1+1))+1))⟩:SFile)))
  else none
  else none
  else none
 else
  some (k_1,a_0r1)
noncomputable def Sj:Nat→Ou→Option (Int×(List SFile))
 | 0,_=>none
 | m+1,s=>JAA CZ (Sj m) s
noncomputable def Qu:YAH:=ZAH CZ (Sj gas)
theorem YAd:Tells ctx PP 110 cv64 cv65 (fun a=>Qu a.1 a.2):=
 have b:∀ z0,CutIs ctx PP 110 Tryz.f110 [1] [(161,Ii z0)] cv65 VAT (JAA z0):=fun z0 _ s=>by cases s <;> kernel_rfl
 have e:∀ z0,EntryIs ctx PP 110 [1] [(161,Ii z0)] cv64 cv65 VAT (fun k a=>ZAH z0 k a.1 a.2):=fun z0 _ a=>by kernel_rfl
 fn_ok (hc IAA hl_nil) Tryz.func110 (fun s s' h=>by cases s;cases s';cases h;rfl) (fun _=>rfl) (fun _ _=>rfl) (b CZ) (e CZ) gas
noncomputable def ZAd {γ:Type} (F:YAH):Hd ctx γ:=hdl cv64.dec (fun a=>F a.1 a.2) cv65.enc
abbrev AAI:=SDisk→Int→Option (Int×(List SFile))
noncomputable def BAI (z0:YAH) (a_0:SDisk) (k_1:Int):Option (Int×(List SFile)):=
 (z0 a_0.fFiles k_1).bind fun r0=>
 some (r0.1,r0.2)
noncomputable def Ru:AAI:=BAI Qu
theorem AAe:Tells ctx PP 37 cv42 cv65 (fun a=>Ru a.1 a.2):=fn_ok0 (hc YAd hl_nil) Tryz.func37 ((fun z0 a=>by kernel_rfl:∀ z0,EntryIs0 ctx PP 37 [1] [(110,ZAd z0)] cv42 cv65 fun a=>BAI z0 a.1 a.2) Qu)
noncomputable def BAe {γ:Type} (F:AAI):Hd ctx γ:=hdl cv42.dec (fun a=>F a.1 a.2) cv65.enc
abbrev CAI:=(List SThing)→Int→Option (Int×(List SThing))
inductive Uu where
 | c0 (k_1:Int) (i_5:Int) (a_0r1:(List SThing))
 | c1 (k_1:Int) (i_5:Int) (a_0r1:(List SThing))
 | c2 (k_1:Int) (i_5:Int) (a_0r1:(List SThing))
 | c3 (k_1:Int) (i_5:Int) (a_0r1:(List SThing))
 | c4 (k_1:Int) (i_5:Int) (a_0r1:(List SThing))
 | c5 (k_1:Int) (i_5:Int) (a_0r1:(List SThing))
 | c6 (k_1:Int) (i_5:Int) (a_0r1:(List SThing))
 | c7 (k_1:Int) (i_5:Int) (a_0r1:(List SThing))
noncomputable def WAT:Uu→LI
 | .c0 k_1 i_5 a_0r1=>(tdo Tryz.f111 208,[(0,[.one (.own 1)]),(1,[.one (.int .i64 k_1)]),(5,[.one (.int .i64 i_5)])],[(1,.io 69 a_0r1)])
 | .c1 k_1 i_5 a_0r1=>(tdo Tryz.f111 3366,[(0,[.one (.own 1)]),(1,[.one (.int .i64 k_1)]),(5,[.one (.int .i64 i_5)])],[(1,.io 69 a_0r1)])
 | .c2 k_1 i_5 a_0r1=>(tdo Tryz.f111 13470,[(0,[.one (.own 1)]),(1,[.one (.int .i64 k_1)]),(5,[.one (.int .i64 i_5)])],[(1,.io 69 a_0r1)])
 | .c3 k_1 i_5 a_0r1=>(tdo Tryz.f111 53886,[(0,[.one (.own 1)]),(1,[.one (.int .i64 k_1)]),(5,[.one (.int .i64 i_5)])],[(1,.io 69 a_0r1)])
 | .c4 k_1 i_5 a_0r1=>(tdo Tryz.f111 215550,[(0,[.one (.own 1)]),(1,[.one (.int .i64 k_1)]),(5,[.one (.int .i64 i_5)])],[(1,.io 69 a_0r1)])
 | .c5 k_1 i_5 a_0r1=>(tdo Tryz.f111 862206,[(0,[.one (.own 1)]),(1,[.one (.int .i64 k_1)]),(5,[.one (.int .i64 i_5)])],[(1,.io 69 a_0r1)])
 | .c6 k_1 i_5 a_0r1=>(tdo Tryz.f111 3448830,[(0,[.one (.own 1)]),(1,[.one (.int .i64 k_1)]),(5,[.one (.int .i64 i_5)])],[(1,.io 69 a_0r1)])
 | .c7 k_1 i_5 a_0r1=>(tdo Tryz.f111 13795326,[(0,[.one (.own 1)]),(1,[.one (.int .i64 k_1)]),(5,[.one (.int .i64 i_5)])],[(1,.io 69 a_0r1)])
noncomputable def DAI (z0:Gf) (k:Uu→Option (Int×(List SThing))) (a_0:(List SThing)) (k_1:Int):Option (Int×(List SThing)):=
 k (.c0 k_1 0 a_0)
noncomputable def Qd (z0:Gf) (k:Uu→Option (Int×(List SThing))):Uu→Option (Int×(List SThing))
 | .c0 k_1 i_5 a_0r1=>
 bif (decide (i_5<(a_0r1.length:Int))) then
  bif ((decide (0≤i_5)) && (decide (i_5<(a_0r1.length:Int)))) then
  k (.c1 (w64 (k_1+1)) i_5 (a_0r1.set i_5.toNat (⟨k_1,(a_0r1.getD i_5.toNat (⟨0,0,false,false,false,false,⟨#[]⟩,0⟩:SThing)).fKind,(a_0r1.getD i_5.toNat (⟨0,0,false,false,false,false,⟨#[]⟩,0⟩:SThing)).fHidden,(a_0r1.getD i_5.toNat (⟨0,0,false,false,false,false,⟨#[]⟩,0⟩:SThing)).fFixed,(a_0r1.getD i_5.toNat (⟨0,0,false,false,false,false,⟨#[]⟩,0⟩:SThing)).fSigns,(a_0r1.getD i_5.toNat (⟨0,0,false,false,false,false,⟨#[]⟩,0⟩:SThing)).fWraps,(a_0r1.getD i_5.toNat (⟨0,0,false,false,false,false,⟨#[]⟩,0⟩:SThing)).fValue,(a_0r1.getD i_5.toNat (⟨0,0,false,false,false,false,⟨#[]⟩,0⟩:SThing)).fNext⟩:SThing)))
  else none
 else
  some (k_1,a_0r1)
 | .c1 k_1 i_5 a_0r1=>
 bif ((decide (0≤i_5)) && (decide (i_5<(a_0r1.length:Int)))) then
 k (.c2 (w64 (k_1+1)) i_5 (a_0r1.set i_5.toNat (⟨(a_0r1.getD i_5.toNat (⟨0,0,false,false,false,false,⟨#[]⟩,0⟩:SThing)).fId,k_1,(a_0r1.getD i_5.toNat (⟨0,0,false,false,false,false,⟨#[]⟩,0⟩:SThing)).fHidden,(a_0r1.getD i_5.toNat (⟨0,0,false,false,false,false,⟨#[]⟩,0⟩:SThing)).fFixed,(a_0r1.getD i_5.toNat (⟨0,0,false,false,false,false,⟨#[]⟩,0⟩:SThing)).fSigns,(a_0r1.getD i_5.toNat (⟨0,0,false,false,false,false,⟨#[]⟩,0⟩:SThing)).fWraps,(a_0r1.getD i_5.toNat (⟨0,0,false,false,false,false,⟨#[]⟩,0⟩:SThing)).fValue,(a_0r1.getD i_5.toNat (⟨0,0,false,false,false,false,⟨#[]⟩,0⟩:SThing)).fNext⟩:SThing)))
 else none
 | .c2 k_1 i_5 a_0r1=>
 bif ((decide (0≤i_5)) && (decide (i_5<(a_0r1.length:Int)))) then
 k (.c3 (w64 (k_1+1)) i_5 (a_0r1.set i_5.toNat (⟨(a_0r1.getD i_5.toNat (⟨0,0,false,false,false,false,⟨#[]⟩,0⟩:SThing)).fId,(a_0r1.getD i_5.toNat (⟨0,0,false,false,false,false,⟨#[]⟩,0⟩:SThing)).fKind,((k_1.tmod 3) == 0),(a_0r1.getD i_5.toNat (⟨0,0,false,false,false,false,⟨#[]⟩,0⟩:SThing)).fFixed,(a_0r1.getD i_5.toNat (⟨0,0,false,false,false,false,⟨#[]⟩,0⟩:SThing)).fSigns,(a_0r1.getD i_5.toNat (⟨0,0,false,false,false,false,⟨#[]⟩,0⟩:SThing)).fWraps,(a_0r1.getD i_5.toNat (⟨0,0,false,false,false,false,⟨#[]⟩,0⟩:SThing)).fValue,(a_0r1.getD i_5.toNat (⟨0,0,false,false,false,false,⟨#[]⟩,0⟩:SThing)).fNext⟩:SThing)))
 else none
 | .c3 k_1 i_5 a_0r1=>
 bif ((decide (0≤i_5)) && (decide (i_5<(a_0r1.length:Int)))) then
 k (.c4 (w64 (k_1+1)) i_5 (a_0r1.set i_5.toNat (⟨(a_0r1.getD i_5.toNat (⟨0,0,false,false,false,false,⟨#[]⟩,0⟩:SThing)).fId,(a_0r1.getD i_5.toNat (⟨0,0,false,false,false,false,⟨#[]⟩,0⟩:SThing)).fKind,(a_0r1.getD i_5.toNat (⟨0,0,false,false,false,false,⟨#[]⟩,0⟩:SThing)).fHidden,((k_1.tmod 3) == 0),(a_0r1.getD i_5.toNat (⟨0,0,false,false,false,false,⟨#[]⟩,0⟩:SThing)).fSigns,(a_0r1.getD i_5.toNat (⟨0,0,false,false,false,false,⟨#[]⟩,0⟩:SThing)).fWraps,(a_0r1.getD i_5.toNat (⟨0,0,false,false,false,false,⟨#[]⟩,0⟩:SThing)).fValue,(a_0r1.getD i_5.toNat (⟨0,0,false,false,false,false,⟨#[]⟩,0⟩:SThing)).fNext⟩:SThing)))
 else none
 | .c4 k_1 i_5 a_0r1=>
 bif ((decide (0≤i_5)) && (decide (i_5<(a_0r1.length:Int)))) then
 k (.c5 (w64 (k_1+1)) i_5 (a_0r1.set i_5.toNat (⟨(a_0r1.getD i_5.toNat (⟨0,0,false,false,false,false,⟨#[]⟩,0⟩:SThing)).fId,(a_0r1.getD i_5.toNat (⟨0,0,false,false,false,false,⟨#[]⟩,0⟩:SThing)).fKind,(a_0r1.getD i_5.toNat (⟨0,0,false,false,false,false,⟨#[]⟩,0⟩:SThing)).fHidden,(a_0r1.getD i_5.toNat (⟨0,0,false,false,false,false,⟨#[]⟩,0⟩:SThing)).fFixed,((k_1.tmod 3) == 0),(a_0r1.getD i_5.toNat (⟨0,0,false,false,false,false,⟨#[]⟩,0⟩:SThing)).fWraps,(a_0r1.getD i_5.toNat (⟨0,0,false,false,false,false,⟨#[]⟩,0⟩:SThing)).fValue,(a_0r1.getD i_5.toNat (⟨0,0,false,false,false,false,⟨#[]⟩,0⟩:SThing)).fNext⟩:SThing)))
 else none
 | .c5 k_1 i_5 a_0r1=>
 bif ((decide (0≤i_5)) && (decide (i_5<(a_0r1.length:Int)))) then
 k (.c6 (w64 (k_1+1)) i_5 (a_0r1.set i_5.toNat (⟨(a_0r1.getD i_5.toNat (⟨0,0,false,false,false,false,⟨#[]⟩,0⟩:SThing)).fId,(a_0r1.getD i_5.toNat (⟨0,0,false,false,false,false,⟨#[]⟩,0⟩:SThing)).fKind,(a_0r1.getD i_5.toNat (⟨0,0,false,false,false,false,⟨#[]⟩,0⟩:SThing)).fHidden,(a_0r1.getD i_5.toNat (⟨0,0,false,false,false,false,⟨#[]⟩,0⟩:SThing)).fFixed,(a_0r1.getD i_5.toNat (⟨0,0,false,false,false,false,⟨#[]⟩,0⟩:SThing)).fSigns,((k_1.tmod 3) == 0),(a_0r1.getD i_5.toNat (⟨0,0,false,false,false,false,⟨#[]⟩,0⟩:SThing)).fValue,(a_0r1.getD i_5.toNat (⟨0,0,false,false,false,false,⟨#[]⟩,0⟩:SThing)).fNext⟩:SThing)))
 else none
 | .c6 k_1 i_5 a_0r1=>
 (z0 k_1).bind fun r0=>
 bif ((decide (0≤i_5)) && (decide (i_5<(a_0r1.length:Int)))) then
 k (.c7 (w64 (k_1+1)) i_5 (a_0r1.set i_5.toNat (⟨(a_0r1.getD i_5.toNat (⟨0,0,false,false,false,false,⟨#[]⟩,0⟩:SThing)).fId,(a_0r1.getD i_5.toNat (⟨0,0,false,false,false,false,⟨#[]⟩,0⟩:SThing)).fKind,(a_0r1.getD i_5.toNat (⟨0,0,false,false,false,false,⟨#[]⟩,0⟩:SThing)).fHidden,(a_0r1.getD i_5.toNat (⟨0,0,false,false,false,false,⟨#[]⟩,0⟩:SThing)).fFixed,(a_0r1.getD i_5.toNat (⟨0,0,false,false,false,false,⟨#[]⟩,0⟩:SThing)).fSigns,(a_0r1.getD i_5.toNat (⟨0,0,false,false,false,false,⟨#[]⟩,0⟩:SThing)).fWraps,r0,(a_0r1.getD i_5.toNat (⟨0,0,false,false,false,false,⟨#[]⟩,0⟩:SThing)).fNext⟩:SThing)))
 else none
 | .c7 k_1 i_5 a_0r1=>
 bif ((decide (0≤i_5)) && (decide (i_5<(a_0r1.length:Int)))) then
 k (.c0 (w64 (k_1+1)) (w64 (i_5+1)) (a_0r1.set i_5.toNat (⟨(a_0r1.getD i_5.toNat (⟨0,0,false,false,false,false,⟨#[]⟩,0⟩:SThing)).fId,(a_0r1.getD i_5.toNat (⟨0,0,false,false,false,false,⟨#[]⟩,0⟩:SThing)).fKind,(a_0r1.getD i_5.toNat (⟨0,0,false,false,false,false,⟨#[]⟩,0⟩:SThing)).fHidden,(a_0r1.getD i_5.toNat (⟨0,0,false,false,false,false,⟨#[]⟩,0⟩:SThing)).fFixed,(a_0r1.getD i_5.toNat (⟨0,0,false,false,false,false,⟨#[]⟩,0⟩:SThing)).fSigns,(a_0r1.getD i_5.toNat (⟨0,0,false,false,false,false,⟨#[]⟩,0⟩:SThing)).fWraps,(a_0r1.getD i_5.toNat (⟨0,0,false,false,false,false,⟨#[]⟩,0⟩:SThing)).fValue,k_1⟩:SThing)))
 else none
noncomputable def Ub:Nat→Uu→Option (Int×(List SThing))
 | 0,_=>none
 | m+1,s=>Qd CZ (Ub m) s
noncomputable def Vu:CAI:=DAI CZ (Ub gas)
theorem CAe:Tells ctx PP 111 cv66 cv67 (fun a=>Vu a.1 a.2):=
 have b:∀ z0,CutIs ctx PP 111 Tryz.f111 [1] [(161,Ii z0)] cv67 WAT (Qd z0):=fun z0 _ s=>by cases s <;> kernel_rfl
 have e:∀ z0,EntryIs ctx PP 111 [1] [(161,Ii z0)] cv66 cv67 WAT (fun k a=>DAI z0 k a.1 a.2):=fun z0 _ a=>by kernel_rfl
 fn_ok (hc IAA hl_nil) Tryz.func111 (fun s s' h=>by cases s <;> cases s' <;> first | (cases h;done) | (cases h;rfl) | exact (rg_ne h (by kernel_rfl)).elim) (fun _=>rfl) (fun _ _=>rfl) (b CZ) (e CZ) gas
noncomputable def DAe {γ:Type} (F:CAI):Hd ctx γ:=hdl cv66.dec (fun a=>F a.1 a.2) cv67.enc
abbrev EAI:=SBook→Int→Option (Int×(List SThing))
noncomputable def FAI (z0:CAI) (a_0:SBook) (k_1:Int):Option (Int×(List SThing)):=
 (z0 a_0.fThings k_1).bind fun r0=>
 some (r0.1,r0.2)
noncomputable def Wu:EAI:=FAI Vu
theorem EAe:Tells ctx PP 38 cv68 cv69 (fun a=>Wu a.1 a.2):=fn_ok0 (hc CAe hl_nil) Tryz.func38 ((fun z0 a=>by kernel_rfl:∀ z0,EntryIs0 ctx PP 38 [1] [(111,DAe z0)] cv68 cv69 fun a=>FAI z0 a.1 a.2) Vu)
noncomputable def FAe {γ:Type} (F:EAI):Hd ctx γ:=hdl cv68.dec (fun a=>F a.1 a.2) cv69.enc
abbrev GAI:=(List SSession)→Int→Option (Int×(List SSession))
inductive Xu where
 | c0 (k_1:Int) (i_5:Int) (a_0r1:(List SSession))
noncomputable def XAT:Xu→LI
 | .c0 k_1 i_5 a_0r1=>(tdo Tryz.f39 208,[(0,[.one (.own 1)]),(1,[.one (.int .i64 k_1)]),(5,[.one (.int .i64 i_5)])],[(1,.io 92 a_0r1)])
noncomputable def HAI (k:Xu→Option (Int×(List SSession))) (a_0:(List SSession)) (k_1:Int):Option (Int×(List SSession)):=
 k (.c0 k_1 0 a_0)
noncomputable def KAA (k:Xu→Option (Int×(List SSession))):Xu→Option (Int×(List SSession))
 | .c0 k_1 i_5 a_0r1=>
 bif (decide (i_5<(a_0r1.length:Int))) then
  bif ((decide (0≤i_5)) && (decide (i_5<(a_0r1.length:Int)))) then
  bif ((decide (0≤i_5)) && (decide (i_5<((a_0r1.set i_5.toNat (⟨k_1,(a_0r1.getD i_5.toNat (⟨0,false⟩:SSession)).fIn⟩:SSession)).length:Int)))) then
  k (.c0 (w64 ((w64 (k_1+1))+1)) (w64 (i_5+1)) ((a_0r1.set i_5.toNat (⟨k_1,(a_0r1.getD i_5.toNat (⟨0,false⟩:SSession)).fIn⟩:SSession)).set i_5.toNat (⟨((a_0r1.set i_5.toNat (⟨k_1,(a_0r1.getD i_5.toNat (⟨0,false⟩:SSession)).fIn⟩:SSession)).getD i_5.toNat (⟨0,false⟩:SSession)).fId,(((w64 (k_1+1)).tmod 3) == 0)⟩:SSession)))
  else none
  else none
 else
  some (k_1,a_0r1)
noncomputable def Tj:Nat→Xu→Option (Int×(List SSession))
 | 0,_=>none
 | m+1,s=>KAA (Tj m) s
noncomputable def Yu:GAI:=HAI (Tj gas)
theorem GAe:Tells ctx PP 39 cv70 cv71 (fun a=>Yu a.1 a.2):=
 have b:CutIs ctx PP 39 Tryz.f39 [1] [] cv71 XAT (KAA):=fun _ s=>by cases s <;> kernel_rfl
 have e:EntryIs ctx PP 39 [1] [] cv70 cv71 XAT (fun k a=>HAI k a.1 a.2):=fun _ a=>by kernel_rfl
 fn_ok hl_nil Tryz.func39 (fun s s' h=>by cases s;cases s';cases h;rfl) (fun _=>rfl) (fun _ _=>rfl) b e gas
noncomputable def HAe {γ:Type} (F:GAI):Hd ctx γ:=hdl cv70.dec (fun a=>F a.1 a.2) cv71.enc
abbrev IAI:=(List SLive)→Int→Option (Int×(List SLive))
inductive Zu where
 | c0 (k_1:Int) (i_5:Int) (a_0r1:(List SLive))
noncomputable def YAT:Zu→LI
 | .c0 k_1 i_5 a_0r1=>(tdo Tryz.f40 208,[(0,[.one (.own 1)]),(1,[.one (.int .i64 k_1)]),(5,[.one (.int .i64 i_5)])],[(1,.io 149 a_0r1)])
noncomputable def JAI (k:Zu→Option (Int×(List SLive))) (a_0:(List SLive)) (k_1:Int):Option (Int×(List SLive)):=
 k (.c0 k_1 0 a_0)
noncomputable def LAA (k:Zu→Option (Int×(List SLive))):Zu→Option (Int×(List SLive))
 | .c0 k_1 i_5 a_0r1=>
 bif (decide (i_5<(a_0r1.length:Int))) then
  bif ((decide (0≤i_5)) && (decide (i_5<(a_0r1.length:Int)))) then
  bif ((decide (0≤i_5)) && (decide (i_5<((a_0r1.set i_5.toNat (⟨k_1,(a_0r1.getD i_5.toNat (⟨0,0⟩:SLive)).fNext⟩:SLive)).length:Int)))) then
  k (.c0 (w64 ((w64 (k_1+1))+1)) (w64 (i_5+1)) ((a_0r1.set i_5.toNat (⟨k_1,(a_0r1.getD i_5.toNat (⟨0,0⟩:SLive)).fNext⟩:SLive)).set i_5.toNat (⟨((a_0r1.set i_5.toNat (⟨k_1,(a_0r1.getD i_5.toNat (⟨0,0⟩:SLive)).fNext⟩:SLive)).getD i_5.toNat (⟨0,0⟩:SLive)).fId,(w64 (k_1+1))⟩:SLive)))
  else none
  else none
 else
  some (k_1,a_0r1)
noncomputable def Uj:Nat→Zu→Option (Int×(List SLive))
 | 0,_=>none
 | m+1,s=>LAA (Uj m) s
noncomputable def Bv:IAI:=JAI (Uj gas)
theorem IAe:Tells ctx PP 40 cv72 cv73 (fun a=>Bv a.1 a.2):=
 have b:CutIs ctx PP 40 Tryz.f40 [1] [] cv73 YAT (LAA):=fun _ s=>by cases s <;> kernel_rfl
 have e:EntryIs ctx PP 40 [1] [] cv72 cv73 YAT (fun k a=>JAI k a.1 a.2):=fun _ a=>by kernel_rfl
 fn_ok hl_nil Tryz.func40 (fun s s' h=>by cases s;cases s';cases h;rfl) (fun _=>rfl) (fun _ _=>rfl) b e gas
noncomputable def JAe {γ:Type} (F:IAI):Hd ctx γ:=hdl cv72.dec (fun a=>F a.1 a.2) cv73.enc
abbrev KAI:=SBox→Int→Option (Int×((List SFile)×(List SThing)×(List SSession)×(List SLive)))
noncomputable def LAI (z0:AAI) (z1:EAI) (z2:GAI) (z3:IAI) (a_0:SBox) (k_1:Int):Option (Int×((List SFile)×(List SThing)×(List SSession)×(List SLive))):=
 (z0 a_0.fDisk k_1).bind fun r0=>
 (z1 a_0.fBook r0.1).bind fun r1=>
 (z2 a_0.fSessions r1.1).bind fun r2=>
 (z3 a_0.fLives r2.1).bind fun r3=>
 some (r3.1,(r0.2,(r1.2,(r2.2,r3.2))))
noncomputable def Dv:KAI:=LAI Ru Wu Yu Bv
theorem KAe:Tells ctx PP 11 cv74 cv75 (fun a=>Dv a.1 a.2):=fn_ok0 (hc AAe (hc EAe (hc GAe (hc IAe hl_nil)))) Tryz.func11 ((fun z0 z1 z2 z3 a=>by kernel_rfl:∀ z0 z1 z2 z3,EntryIs0 ctx PP 11 [1,2,3,4] [(37,BAe z0),(38,FAe z1),(39,HAe z2),(40,JAe z3)] cv74 cv75 fun a=>LAI z0 z1 z2 z3 a.1 a.2) Ru Wu Yu Bv)
noncomputable def LAe {γ:Type} (F:KAI):Hd ctx γ:=hdl cv74.dec (fun a=>F a.1 a.2) cv75.enc
abbrev MAI:=(List SFile)→Int→Option Int
inductive Fv where
 | c0 (a_0:(List SFile)) (k_1:Int) (i_5:Int)
noncomputable def ZAT:Fv→LI
 | .c0 a_0 k_1 i_5=>(tdo Tryz.f112 208,[(0,[.one (.rsl 155 a_0)]),(1,[.one (.int .i64 k_1)]),(5,[.one (.int .i64 i_5)])],[])
noncomputable def NAI (z0:Gf) (k:Fv→Option Int) (a_0:(List SFile)) (k_1:Int):Option Int:=
 k (.c0 a_0 k_1 0)
noncomputable def MAA (z0:Gf) (k:Fv→Option Int):Fv→Option Int
 | .c0 a_0 k_1 i_5=>
 bif (decide (i_5<(a_0.length:Int))) then
  bif ((decide (0≤i_5)) && (decide (i_5<(a_0.length:Int)))) then
  (z0 k_1).bind fun r0=>
  bif (!((ByteArray.toList (a_0.getD i_5.toNat (⟨⟨#[]⟩,⟨#[]⟩,0⟩:SFile)).fName) == (ByteArray.toList r0))) then
  some (-(1:Int))
  else
  bif ((decide (0≤i_5)) && (decide (i_5<(a_0.length:Int)))) then
  (z0 (w64 (k_1+1))).bind fun r1=>
  bif (!((ByteArray.toList (a_0.getD i_5.toNat (⟨⟨#[]⟩,⟨#[]⟩,0⟩:SFile)).fText) == (ByteArray.toList r1))) then
   some (-(1:Int))
  else
   bif ((decide (0≤i_5)) && (decide (i_5<(a_0.length:Int)))) then
   bif ((a_0.getD i_5.toNat (⟨⟨#[]⟩,⟨#[]⟩,0⟩:SFile)).fKept != (w64 ((w64 (k_1+1))+1))) then
   some (-(1:Int))
   else
   k (.c0 a_0 (w64 ((w64 ((w64 (k_1+1))+1))+1)) (w64 (i_5+1)))
   else none
  else none
  else none
 else
  some k_1
noncomputable def Vj:Nat→Fv→Option Int
 | 0,_=>none
 | m+1,s=>MAA CZ (Vj m) s
noncomputable def Gv:MAI:=NAI CZ (Vj gas)
theorem MAe:Tells ctx PP 112 cv76 cv15 (fun a=>Gv a.1 a.2):=
 have b:∀ z0,CutIs ctx PP 112 Tryz.f112 [] [(161,Ii z0)] cv15 ZAT (MAA z0):=fun z0 _ s=>by cases s <;> kernel_rfl
 have e:∀ z0,EntryIs ctx PP 112 [] [(161,Ii z0)] cv76 cv15 ZAT (fun k a=>NAI z0 k a.1 a.2):=fun z0 _ a=>by kernel_rfl
 fn_ok (hc IAA hl_nil) Tryz.func112 (fun s s' h=>by cases s;cases s';cases h;rfl) (fun _=>rfl) (fun _ _=>rfl) (b CZ) (e CZ) gas
noncomputable def NAe {γ:Type} (F:MAI):Hd ctx γ:=hdl cv76.dec (fun a=>F a.1 a.2) cv15.enc
abbrev OAI:=SDisk→Int→Option Int
noncomputable def PAI (z0:MAI) (a_0:SDisk) (k_1:Int):Option Int:=
 (z0 a_0.fFiles k_1).bind fun r0=>
 bif (decide (r0<0)) then
 some (-(1:Int))
 else
 some r0
noncomputable def Jv:OAI:=PAI Gv
theorem OAe:Tells ctx PP 41 cv77 cv15 (fun a=>Jv a.1 a.2):=fn_ok0 (hc MAe hl_nil) Tryz.func41 ((fun z0 a=>by kernel_rfl:∀ z0,EntryIs0 ctx PP 41 [] [(112,NAe z0)] cv77 cv15 fun a=>PAI z0 a.1 a.2) Gv)
noncomputable def PAe {γ:Type} (F:OAI):Hd ctx γ:=hdl cv77.dec (fun a=>F a.1 a.2) cv15.enc
abbrev QAI:=(List SThing)→Int→Option Int
inductive Kv where
 | c0 (a_0:(List SThing)) (k_1:Int) (i_5:Int)
noncomputable def AAU:Kv→LI
 | .c0 a_0 k_1 i_5=>(tdo Tryz.f113 208,[(0,[.one (.rsl 69 a_0)]),(1,[.one (.int .i64 k_1)]),(5,[.one (.int .i64 i_5)])],[])
noncomputable def RAI (z0:Gf) (k:Kv→Option Int) (a_0:(List SThing)) (k_1:Int):Option Int:=
 k (.c0 a_0 k_1 0)
noncomputable def NAA (z0:Gf) (k:Kv→Option Int):Kv→Option Int
 | .c0 a_0 k_1 i_5=>
 bif (decide (i_5<(a_0.length:Int))) then
  bif ((decide (0≤i_5)) && (decide (i_5<(a_0.length:Int)))) then
  bif ((a_0.getD i_5.toNat (⟨0,0,false,false,false,false,⟨#[]⟩,0⟩:SThing)).fId != k_1) then
  some (-(1:Int))
  else
  bif ((decide (0≤i_5)) && (decide (i_5<(a_0.length:Int)))) then
  bif ((a_0.getD i_5.toNat (⟨0,0,false,false,false,false,⟨#[]⟩,0⟩:SThing)).fKind != (w64 (k_1+1))) then
   some (-(1:Int))
  else
   bif ((decide (0≤i_5)) && (decide (i_5<(a_0.length:Int)))) then
   bif (!((a_0.getD i_5.toNat (⟨0,0,false,false,false,false,⟨#[]⟩,0⟩:SThing)).fHidden == (((w64 ((w64 (k_1+1))+1)).tmod 3) == 0))) then
   some (-(1:Int))
   else
   bif ((decide (0≤i_5)) && (decide (i_5<(a_0.length:Int)))) then
   bif (!((a_0.getD i_5.toNat (⟨0,0,false,false,false,false,⟨#[]⟩,0⟩:SThing)).fFixed == (((w64 ((w64 ((w64 (k_1+1))+1))+1)).tmod 3) == 0))) then
    some (-(1:Int))
   else
    bif ((decide (0≤i_5)) && (decide (i_5<(a_0.length:Int)))) then
    bif (!((a_0.getD i_5.toNat (⟨0,0,false,false,false,false,⟨#[]⟩,0⟩:SThing)).fSigns == (((w64 ((w64 ((w64 ((w64 (k_1+1))+1))+1))+1)).tmod 3) == 0))) then
    some (-(1:Int))
    else
    bif ((decide (0≤i_5)) && (decide (i_5<(a_0.length:Int)))) then
    bif (!((a_0.getD i_5.toNat (⟨0,0,false,false,false,false,⟨#[]⟩,0⟩:SThing)).fWraps == (((w64 ((w64 ((w64 ((w64 ((w64 (k_1+1))+1))+1))+1))+1)).tmod 3) == 0))) then
     some (-(1:Int))
    else
     bif ((decide (0≤i_5)) && (decide (i_5<(a_0.length:Int)))) then
     (z0 (w64 ((w64 ((w64 ((w64 ((w64 ((w64 (k_1+1))+1))+1))+1))+1))+1))).bind fun r0=>
     bif (!((ByteArray.toList (a_0.getD i_5.toNat (⟨0,0,false,false,false,false,⟨#[]⟩,0⟩:SThing)).fValue) == (ByteArray.toList r0))) then
     some (-(1:Int))
     else
     bif ((decide (0≤i_5)) && (decide (i_5<(a_0.length:Int)))) then
     bif ((a_0.getD i_5.toNat (⟨0,0,false,false,false,false,⟨#[]⟩,0⟩:SThing)).fNext != (w64 ((w64 ((w64 ((w64 ((w64 ((w64 ((w64 (k_1+1))+1))+1))+1))+1))+1))+1))) then
      some (-(1:Int))
     else
      k (.c0 a_0 (w64 ((w64 ((w64 ((w64 ((w64 ((w64 ((w64 ((w64 (k_1+1))+1))+1))+1))+1))+1))+1))+1)) (w64 (i_5+1)))
     else none
     else none
    else none
    else none
   else none
   else none
  else none
  else none
 else
  some k_1
noncomputable def Wj:Nat→Kv→Option Int
 | 0,_=>none
 | m+1,s=>NAA CZ (Wj m) s
noncomputable def Nv:QAI:=RAI CZ (Wj gas)
theorem QAe:Tells ctx PP 113 cv78 cv15 (fun a=>Nv a.1 a.2):=
 have b:∀ z0,CutIs ctx PP 113 Tryz.f113 [] [(161,Ii z0)] cv15 AAU (NAA z0):=fun z0 _ s=>by cases s <;> kernel_rfl
 have e:∀ z0,EntryIs ctx PP 113 [] [(161,Ii z0)] cv78 cv15 AAU (fun k a=>RAI z0 k a.1 a.2):=fun z0 _ a=>by kernel_rfl
 fn_ok (hc IAA hl_nil) Tryz.func113 (fun s s' h=>by cases s;cases s';cases h;rfl) (fun _=>rfl) (fun _ _=>rfl) (b CZ) (e CZ) gas
noncomputable def RAe {γ:Type} (F:QAI):Hd ctx γ:=hdl cv78.dec (fun a=>F a.1 a.2) cv15.enc
abbrev SAI:=SBook→Int→Option Int
noncomputable def TAI (z0:QAI) (a_0:SBook) (k_1:Int):Option Int:=
 (z0 a_0.fThings k_1).bind fun r0=>
 bif (decide (r0<0)) then
 some (-(1:Int))
 else
 some r0
noncomputable def Ov:SAI:=TAI Nv
theorem SAe:Tells ctx PP 42 cv21 cv15 (fun a=>Ov a.1 a.2):=fn_ok0 (hc QAe hl_nil) Tryz.func42 ((fun z0 a=>by kernel_rfl:∀ z0,EntryIs0 ctx PP 42 [] [(113,RAe z0)] cv21 cv15 fun a=>TAI z0 a.1 a.2) Nv)
noncomputable def TAe {γ:Type} (F:SAI):Hd ctx γ:=hdl cv21.dec (fun a=>F a.1 a.2) cv15.enc
abbrev UAI:=(List SSession)→Int→Option Int
inductive Pv where
 | c0 (a_0:(List SSession)) (k_1:Int) (i_5:Int)
noncomputable def BAU:Pv→LI
 | .c0 a_0 k_1 i_5=>(tdo Tryz.f43 208,[(0,[.one (.rsl 92 a_0)]),(1,[.one (.int .i64 k_1)]),(5,[.one (.int .i64 i_5)])],[])
noncomputable def VAI (k:Pv→Option Int) (a_0:(List SSession)) (k_1:Int):Option Int:=
 k (.c0 a_0 k_1 0)
noncomputable def OAA (k:Pv→Option Int):Pv→Option Int
 | .c0 a_0 k_1 i_5=>
 bif (decide (i_5<(a_0.length:Int))) then
  bif ((decide (0≤i_5)) && (decide (i_5<(a_0.length:Int)))) then
  bif ((a_0.getD i_5.toNat (⟨0,false⟩:SSession)).fId != k_1) then
  some (-(1:Int))
  else
  bif ((decide (0≤i_5)) && (decide (i_5<(a_0.length:Int)))) then
  bif (!((a_0.getD i_5.toNat (⟨0,false⟩:SSession)).fIn == (((w64 (k_1+1)).tmod 3) == 0))) then
   some (-(1:Int))
  else
   k (.c0 a_0 (w64 ((w64 (k_1+1))+1)) (w64 (i_5+1)))
  else none
  else none
 else
  some k_1
noncomputable def Xj:Nat→Pv→Option Int
 | 0,_=>none
 | m+1,s=>OAA (Xj m) s
noncomputable def Qv:UAI:=VAI (Xj gas)
theorem UAe:Tells ctx PP 43 cv79 cv15 (fun a=>Qv a.1 a.2):=
 have b:CutIs ctx PP 43 Tryz.f43 [] [] cv15 BAU (OAA):=fun _ s=>by cases s <;> kernel_rfl
 have e:EntryIs ctx PP 43 [] [] cv79 cv15 BAU (fun k a=>VAI k a.1 a.2):=fun _ a=>by kernel_rfl
 fn_ok hl_nil Tryz.func43 (fun s s' h=>by cases s;cases s';cases h;rfl) (fun _=>rfl) (fun _ _=>rfl) b e gas
noncomputable def VAe {γ:Type} (F:UAI):Hd ctx γ:=hdl cv79.dec (fun a=>F a.1 a.2) cv15.enc
abbrev WAI:=(List SLive)→Int→Option Int
inductive Sv where
 | c0 (a_0:(List SLive)) (k_1:Int) (i_5:Int)
noncomputable def CAU:Sv→LI
 | .c0 a_0 k_1 i_5=>(tdo Tryz.f44 208,[(0,[.one (.rsl 149 a_0)]),(1,[.one (.int .i64 k_1)]),(5,[.one (.int .i64 i_5)])],[])
noncomputable def XAI (k:Sv→Option Int) (a_0:(List SLive)) (k_1:Int):Option Int:=
 k (.c0 a_0 k_1 0)
noncomputable def PAA (k:Sv→Option Int):Sv→Option Int
 | .c0 a_0 k_1 i_5=>
 bif (decide (i_5<(a_0.length:Int))) then
  bif ((decide (0≤i_5)) && (decide (i_5<(a_0.length:Int)))) then
  bif ((a_0.getD i_5.toNat (⟨0,0⟩:SLive)).fId != k_1) then
  some (-(1:Int))
  else
  bif ((decide (0≤i_5)) && (decide (i_5<(a_0.length:Int)))) then
  bif ((a_0.getD i_5.toNat (⟨0,0⟩:SLive)).fNext != (w64 (k_1+1))) then
   some (-(1:Int))
  else
   k (.c0 a_0 (w64 ((w64 (k_1+1))+1)) (w64 (i_5+1)))
  else none
  else none
 else
  some k_1
noncomputable def Yj:Nat→Sv→Option Int
 | 0,_=>none
 | m+1,s=>PAA (Yj m) s
noncomputable def Tv:WAI:=XAI (Yj gas)
theorem WAe:Tells ctx PP 44 cv80 cv15 (fun a=>Tv a.1 a.2):=
 have b:CutIs ctx PP 44 Tryz.f44 [] [] cv15 CAU (PAA):=fun _ s=>by cases s <;> kernel_rfl
 have e:EntryIs ctx PP 44 [] [] cv80 cv15 CAU (fun k a=>XAI k a.1 a.2):=fun _ a=>by kernel_rfl
 fn_ok hl_nil Tryz.func44 (fun s s' h=>by cases s;cases s';cases h;rfl) (fun _=>rfl) (fun _ _=>rfl) b e gas
noncomputable def XAe {γ:Type} (F:WAI):Hd ctx γ:=hdl cv80.dec (fun a=>F a.1 a.2) cv15.enc
abbrev YAI:=SBox→Int→Option Int
noncomputable def ZAI (z0:OAI) (z1:SAI) (z2:UAI) (z3:WAI) (a_0:SBox) (k_1:Int):Option Int:=
 (z0 a_0.fDisk k_1).bind fun r0=>
 bif (decide (r0<0)) then
 some (-(1:Int))
 else
 (z1 a_0.fBook r0).bind fun r1=>
 bif (decide (r1<0)) then
  some (-(1:Int))
 else
  (z2 a_0.fSessions r1).bind fun r2=>
  bif (decide (r2<0)) then
  some (-(1:Int))
  else
  (z3 a_0.fLives r2).bind fun r3=>
  bif (decide (r3<0)) then
   some (-(1:Int))
  else
   some r3
noncomputable def Wv:YAI:=ZAI Jv Ov Qv Tv
theorem YAe:Tells ctx PP 12 cv81 cv15 (fun a=>Wv a.1 a.2):=fn_ok0 (hc OAe (hc SAe (hc UAe (hc WAe hl_nil)))) Tryz.func12 ((fun z0 z1 z2 z3 a=>by kernel_rfl:∀ z0 z1 z2 z3,EntryIs0 ctx PP 12 [] [(41,PAe z0),(42,TAe z1),(43,VAe z2),(44,XAe z3)] cv81 cv15 fun a=>ZAI z0 z1 z2 z3 a.1 a.2) Jv Ov Qv Tv)
noncomputable def ZAe {γ:Type} (F:YAI):Hd ctx γ:=hdl cv81.dec (fun a=>F a.1 a.2) cv15.enc
abbrev DAU:=SBox→Option Bool
noncomputable def QAA (z0:AAJ) (z1:BAJ) (z2:CAJ) (z3:DAH) (z4:VAH) (z5:KAI) (z6:YAI) (aB_0:SBox):Option Bool:=
 (z0 aB_0 1048576).bind fun r0=>
 bif (decide (r0<0)) then
 some true
 else
 (z1 aB_0).bind fun r1=>
 (z2 r1).bind fun r2=>
 (z1 aB_0).bind fun r3=>
 (z3 r3).bind fun r4=>
 (z4 r4.1 r2.1).bind fun r5=>
 bif (!r5) then
  some false
 else
  bif (!(r4.2 == r2.2)) then
  some false
  else
  (z1 aB_0).bind fun r6=>
  (z4 r3 r6).bind fun r7=>
  bif (!r7) then
   some false
  else
   (z5 r3 1).bind fun r8=>
   bif (decide (r8.1<0)) then
   some false
   else
   (z4 r4.1 r2.1).bind fun r9=>
   bif (!r9) then
    some false
   else
    bif (!(r4.2 == r2.2)) then
    some false
    else
    (z5 r4.1 1).bind fun r10=>
    (z6 ⟨r4.1.fKey,r4.1.fUp,⟨r10.2.1⟩,⟨r4.1.fBook.fWord,r4.1.fBook.fTries,r10.2.2.1,r4.1.fBook.fLast,r4.1.fBook.fChain,r4.1.fBook.fCount⟩,r10.2.2.2.1,r10.2.2.2.2,r4.1.fOpened⟩ 1).bind fun r11=>
    bif (decide (r11<0)) then
     some false
    else
     bif (r11 != r10.1) then
     some false
     else
     (z1 aB_0).bind fun r12=>
     (z3 r12).bind fun r13=>
     (z4 r13.1 r2.1).bind fun r14=>
     bif (!r14) then
      some false
     else
      bif (!(r13.2 == r2.2)) then
      some false
      else
      (z6 ⟨r4.1.fKey,r4.1.fUp,⟨r10.2.1⟩,⟨r4.1.fBook.fWord,r4.1.fBook.fTries,r10.2.2.1,r4.1.fBook.fLast,r4.1.fBook.fChain,r4.1.fBook.fCount⟩,r10.2.2.2.1,r10.2.2.2.2,r4.1.fOpened⟩ 1).bind fun r15=>
      bif (decide (r15<0)) then
       some false
      else
       bif (r15 != r10.1) then
       some false
       else
       some true
noncomputable def laws_FnExactRise:DAU:=QAA Zj Xv Yv Vt Ku Dv Wv
theorem ok_laws_FnExactRise:Tells ctx PP 6 cv103 cv6 (fun a=>laws_FnExactRise a):=fn_ok0 (hc AAf (hc BAf (hc CAf (hc EAd (hc WAd (hc KAe (hc YAe hl_nil))))))) Tryz.func6 ((fun z0 z1 z2 z3 z4 z5 z6 a=>by kernel_rfl:∀ z0 z1 z2 z3 z4 z5 z6,EntryIs0 ctx PP 6 [] [(13,DAf z0),(15,EAf z1),(22,FAf z2),(23,FAd z3),(10,XAd z4),(11,LAe z5),(12,ZAe z6)] cv103 cv6 fun a=>QAA z0 z1 z2 z3 z4 z5 z6 a) Zj Xv Yv Vt Ku Dv Wv)
noncomputable def MAt {γ:Type} (F:DAU):Hd ctx γ:=hdl cv103.dec (fun a=>F a) cv6.enc
end Go.Proofs.YthfpmhalgimbbaaGreatDoor.G
