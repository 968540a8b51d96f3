/- The plain law of FnPlans: whatever the arguments, it answers true. Conditions: what is read is in reach. Part 3 of 3. -/
import Derived.Test.YtpjfloaghpgpdaaGreatDoorPureFnPlansb
namespace Go.Proofs.YtpjfloaghpgpdaaGreatDoor.G
open Go Go.Ev
set_option linter.unusedVariables false
set_option linter.unusedSimpArgs false
set_option linter.unusedSectionVars false
variable [PC]
def Xk:ByteArray→ByteArray×Bool:=fun _=>(⟨#[]⟩,false)
theorem VBh:((List.range 100).all fun m=>decide (IAB (m:Int)=some (X4 (m:Int))))=true:=by kernel_rfl
theorem BBI {n:Int} (h:0≤n∧n<100):IAB n=some (X4 n):=by
 obtain ⟨m,rfl⟩:∃ m:Nat,n=(m:Int):=⟨n.toNat,by omega⟩
 exact of_decide_eq_true (List.all_eq_true.1 VBh m (List.mem_range.2 (by omega)))
theorem WBh {l:List SRec}:∀ {b:SBook},(Vb b l).2=true→(Vb b l).1.fLast≤b.fLast+(l.length:Int):=by
 induction l<;>grind [Vb,XBD]
theorem Good.XBh {k:ByteArray} {l:List SRec} {b:SBox} (g:Good k l b):b.fBook.fLast≤(l.length:Int):=by
 have h:=WBh (l:=l) (b:=Qc) (by rw [g.book])
 rw [g.book,show Qc.fLast=0 from rfl,Int.zero_add] at h;exact h
def Aw (e:SEvent):Prop:=SAa e=true∧(e.fCall.fOp=12→e.fCall.fText.size≠768)
theorem Aw.call {e:SEvent} (h:Aw e) (hr:e.fRise=false):Gq e.fCall=true:=by
 have h1:=h.1
 simp_all [SAa]
structure LG (k:ByteArray) (l:List SRec) (L:SLife):Prop where
 box:Good k l L.fBox∨Down k l L.fBox
 done:L.fDone=l
 few:l.length≤L.fCodes.length+1∧L.fReplies.length=L.fCodes.length∧L.fGives.length≤L.fCodes.length
 opn:L.fBox.fOpened≤(L.fCodes.length:Int)
theorem LG.down {k:ByteArray} {l:List SRec} {L:SLife} (h:Down k l L.fBox):L.fBox.fUp=false∧L.fBox.fLives=[]∧L.fBox.fSessions=[]∧L.fBox.fBook=Qc∧L.fBox.fOpened=0∧L.fBox.fKey=k∧Small L.fBox.fDisk∧Au L.fBox=true:=by
 obtain ⟨X,hX,hXs,_⟩:=h.box
 rw [hX]
 exact ⟨rfl,rfl,rfl,rfl,rfl,rfl,NBD (by omega),RBD (b:=⟨k,false,dk X X.size,Qc,[],[],0⟩) h.ksz (Tv (by omega) (by omega))⟩
theorem Good.dec {k:ByteArray} {l:List SRec} {b:SBox} (g:Good k l b) (hl:l.length<60) (ho:b.fOpened<60):Dec b:=⟨BBI (by have:=g.XBh;have:=g.pb.last;omega),BBI (by have:=g.opn;omega)⟩
theorem Good.plan {k:ByteArray} {l:List SRec} {b:SBox} {c:SCall} (g:Good k l b) (hl:l.length<60) (ho:b.fOpened<60) (hc:Gq c=true) (h12:c.fOp=12→c.fText.size≠768):V7 b c=some (Zf Xk b c):=
 UBh g.pb (g.dec hl ho) g.pOk g.up hc (by have:=g.cnt;omega) fun h v _=>PBh (h12 h)
theorem YBh {b:SBox} (hb:Jg b.fBook=true) (hl:L8 b=true) (t:Int):Wv b t≤16:=by
 rw [Wv]
 cases hx:Ic b.fBook.fThings t with
 | none=>simp
 | some x=>
  obtain ⟨e1,e2⟩:=X8 hx
  have h1:=Uo (Y7 (Vh.1 hb).2.2.2.2.2.2 x e2).2.2
  have h2:=CA4 hl (by rw [e1];exact hx) (by omega)
  grind
def MA4 (L:SLife) (e:SEvent) (code:Int):List SGiven:=bif e.fCall.fOp == 5 && code == 0 then L.fGives++[⟨e.fCall.fThing,Wv L.fBox e.fCall.fThing,(L.fCodes.length:Int)⟩] else L.fGives
inductive Step (k:ByteArray) (e:SEvent) (l:List SRec) (L:SLife):List SRec→SLife→Prop
 | call (g:Good k l L.fBox) (hr:e.fRise=false) (hc:e.fCut=false∨(Zf Xk L.fBox e.fCall).1=[]):Step k e l L (l++(Zf Xk L.fBox e.fCall).1) ⟨RAC L.fBox e.fCall (Zf Xk L.fBox e.fCall),L.fCodes++[(Zf Xk L.fBox e.fCall).2.1],L.fReplies++[(Zf Xk L.fBox e.fCall).2.2],MA4 L e (Zf Xk L.fBox e.fCall).2.1,L.fDone++(Zf Xk L.fBox e.fCall).1⟩
 | cut (g:Good k l L.fBox) (hr:e.fRise=false) (r:SRec) (hp:(Zf Xk L.fBox e.fCall).1=[r]) (b':SBox) (l':List SRec) (d:Down k l' b') (hl:l'=l∨l'=l++[r]):Step k e l L l' ⟨b',L.fCodes++[10],L.fReplies++[⟨#[]⟩],L.fGives,bif decide (l'.length > l.length) then L.fDone++[r] else L.fDone⟩
 | down (d:Down k l L.fBox) (hr:e.fRise=false):Step k e l L l ⟨L.fBox,L.fCodes++[9],L.fReplies++[JAN 9],L.fGives,L.fDone⟩
 | up (d:Down k l L.fBox) (hr:e.fRise=true) (b':SBox) (g:Good k l b') (h1:b'.fSessions=[]) (h2:b'.fLives=[]) (h3:b'.fOpened=0):Step k e l L l ⟨b',L.fCodes++[0],L.fReplies++[⟨#[]⟩],L.fGives,L.fDone⟩
 | stay (g:Good k l L.fBox) (hr:e.fRise=true):Step k e l L l ⟨L.fBox,L.fCodes++[1],L.fReplies++[⟨#[]⟩],L.fGives,L.fDone⟩
theorem ZBh {k:ByteArray} {l:List SRec} {L:SLife} (h:Down k l L.fBox) (c:SCall):V7 L.fBox c=some ([],9,JAN 9):=by
 obtain ⟨h1,h2,h3,h4,h5,h6,h7,h8⟩:=LG.down h
 rw [V7,CAj,mk,CA3 (by have:=h7.1;omega) (fun f hf=>by have:=h7.2 f hf;omega) (by rw [h4];exact Nat.zero_le _) (by simp_all) (by simp_all),h8,Option.bind_some,h1,Js (n:=9) (by decide)];rfl
theorem ABi (b:SBox) (c:SCall) (code leaf:Int):(QAC b c code leaf).fOpened≤b.fOpened+1:=by
 rw [QAC,WAl]
 cases code != 0
 ·cases c.fOp == 1
  ·cases c.fOp == 13
   ·cases c.fOp == 2
    ·cases c.fOp == 5
     ·cases c.fOp == 9 <;> (show b.fOpened≤_;omega)
     ·cases Ic b.fBook.fThings c.fThing with
      | none=>grind
      | some x=>
       dsimp only
       cases x.fKind == 2 && (decide (leaf≥0) && decide (leaf<x.fNext)) <;> (show b.fOpened≤_;omega)
    ·show b.fOpened≤_;omega
   ·show b.fOpened≤_;omega
  simp
 grind
theorem BBi (b:SBox) (c:SCall) (p:PT):(RAC b c p).fOpened≤b.fOpened+1:=by
 rw [RAC]
 cases p.1 <;> exact ABi _ _ _ _
theorem CBi {tk:ByteArray→ByteArray×Bool} {k:ByteArray} {l:List SRec} {b:SBox} {c:SCall} (g:Good k l b):(Zf tk b c).1.length≤1:=by
 rcases YAl (tk:=tk) (c:=c) g with h | ⟨r,h,_⟩ <;> rw [h]
 all_goals simp
theorem NA4 {k:ByteArray} {l l':List SRec} {L L':SLife} {e:SEvent} (h:LG k l L) (hn:L.fCodes.length<45) (s:Step k e l L l' L'):LG k l' L'∧L'.fCodes.length=L.fCodes.length+1:=by
 obtain ⟨f1,f2,f3⟩:=h.few
 have ho:=h.opn
 have app:∀ {α:Type} (xs:List α) (x:α),(xs++[x]).length=xs.length+1:=fun xs x=>by simp
 have hgiv:∀ c,(MA4 L e c).length≤L.fGives.length+1:=fun c=>by
  grind [MA4]
 cases s with
 | call g hr hc=>
  have h1:=CBi (tk:=Xk) (c:=e.fCall) g
  refine ⟨⟨.inl (PBg g (by omega)),by rw [h.done],⟨?_,?_,?_⟩,?_⟩,app _ _⟩
  ·grind
  ·simp_all
  ·grind
  ·dsimp only;rw [app];have:=BBi L.fBox e.fCall (Zf Xk L.fBox e.fCall);omega
 | cut g hr r hp b' l2 d hl=>
  obtain ⟨X,hX,_⟩:=d.box
  refine ⟨⟨.inr d,?_,⟨?_,?_,?_⟩,?_⟩,app _ _⟩
  ·rcases hl with rfl | rfl
   ·dsimp only;rw [decide_eq_false (by omega),h.done];rfl
   ·dsimp only;rw [decide_eq_true (by simp),h.done];rfl
  all_goals grind
 | down d hr=>
  refine ⟨⟨.inr d,h.done,⟨?_,?_,?_⟩,?_⟩,app _ _⟩ <;> dsimp only <;> rw [app] <;> try rw [app]
  all_goals omega
 | up d hr b' g h1 h2 h3=>
  refine ⟨⟨.inl g,h.done,⟨?_,?_,?_⟩,?_⟩,app _ _⟩ <;> dsimp only <;> rw [app] <;> try rw [app]
  all_goals omega
 | stay g hr=>
  refine ⟨⟨.inl g,h.done,⟨?_,?_,?_⟩,?_⟩,app _ _⟩ <;> dsimp only <;> rw [app] <;> try rw [app]
  all_goals omega
structure DB (b:SBox):Prop where
 k:b.fKey.size=32
 s:∀ x ∈ b.fSessions,0≤x.fId∧x.fId≤1000
 sl:b.fSessions.length≤1000
 t:∀ x ∈ b.fBook.fThings,0≤x.fId∧x.fId≤1000
 tl:b.fBook.fThings.length≤1000
structure CI (c:SCall):Prop where
 o:1≤c.fOp∧c.fOp≤13
 s:0≤c.fSession∧c.fSession≤1000
 t:0≤c.fThing∧c.fThing≤1000
 k:0≤c.fKind∧c.fKind≤3
 x:c.fOp=12→c.fText.size≠768
theorem LG.db {k:ByteArray} {l:List SRec} {L:SLife} (h:LG k l L):DB L.fBox:=by
 rcases h.box with g | d
 ·have b:=Vh.1 g.Jl
  exact ⟨by rw [g.key,g.ksz],fun x hx=>by have:=g.ABH.1 x hx;have:=g.opn;omega,by have:=g.ses.1;omega,fun x hx=>by have:=Y7 b.2.2.2.2.2.2 x hx;omega,by omega⟩
 ·obtain ⟨h1,h2,h3,h4,h5,h6,h7,h8⟩:=LG.down d
  exact ⟨by rw [h6,d.ksz],fun x hx=>(by simp_all),by simp_all,fun x hx=>(by rw [h4] at hx;cases hx),by rw [h4];exact Nat.zero_le _⟩
def CR (r:SCall×SL01Cur):Prop:=CI r.1∧Df r.2
theorem CBI {m:Nat} {i h:Int} {y v:SCall} (hi:0≤i) (hv:CI v):Ok (Ir (m+1) (.c4 i h y v)) CR:=by
 rw [Ir]
 simp only [PAA,mk]
 exact Ok.bind (Am (c:=⟨(),i,h⟩) hi) fun a ha=>Ok.cond (fun _=>Ok.bind (Xp ha) fun b hb=>Ok.ret ⟨⟨hv.o,hv.s,by grind,hv.k,hv.x⟩,hb.2⟩) fun _=>Ok.ret ⟨hv,ha⟩
theorem SAC {m:Nat} {i h:Int} {y v:SCall} (hi:0≤i) (hv:CI v):Ok (Ir (m+2) (.c3 i h y v)) CR:=by
 rw [Ir]
 simp only [PAA,mk]
 exact Ok.bind (Am (c:=⟨(),i,h⟩) hi) fun a ha=>Ok.cond (fun _=>Ok.bind (Xp ha) fun b hb=>CBI hb.2 ⟨hv.o,by grind,hv.t,hv.k,hv.x⟩) fun _=>CBI ha hv
theorem EBi {x:Int} (h:x ∈ [(1:Int),2,2,2,3,3]):0≤x∧x≤3:=by
 grind
theorem OA4 {m:Nat} {i h:Int} {b:SBox} {A:ByteArray} {y v:SCall} (hb:DB b) (hi:0≤i) (hv:CI v):Ok (Ir (m+3) (.c2 A i h b y v)) CR:=by
 have set:∀ {n:Int} {kd:Int} {t:ByteArray} {p q:Bool},(v.fOp == n)=true→n≠12→0≤kd∧kd≤3→CI ⟨v.fOp,v.fSession,v.fThing,kd,t,p,q⟩:=fun hn h12 hk=>⟨hv.o,hv.s,hv.t,hk,fun e=>absurd ((beq_iff_eq.1 hn).symm.trans e) h12⟩
 rw [Ir]
 simp only [PAA,mk]
 refine Ok.cond (fun h2=>Ok.bind (Am (c:=⟨(),i,h⟩) hi) fun a ha=>Ok.cond (fun _=>SAC ha (set h2 (by decide) hv.k)) fun _=>SAC ha (set h2 (by decide) hv.k)) fun _=>?_
 refine Ok.cond (fun h3=>SAC hi (set h3 (by decide) hv.k)) fun _=>?_
 refine Ok.cond (fun h4=>Ok.bind (JBC (c:=⟨(),i,h⟩) hi (by decide)) fun a ha=>Ok.bind (WAj ha.2 (by decide)) fun d hd=>Ok.bind (Am hd.2) fun e he=>Ok.bind (Am he) fun f hf=>SAC hf (set h4 (by decide) (EBi ha.1))) fun _=>?_
 refine Ok.cond (fun h5=>Ok.bind (WAj (c:=⟨(),i,h⟩) hi (by decide)) fun a ha=>SAC ha.2 (set h5 (by decide) hv.k)) fun _=>?_
 refine Ok.cond (fun h8=>Ok.bind (Am (c:=⟨(),i,h⟩) hi) fun a ha=>Ok.bind (Am ha) fun d hd=>SAC hd (set h8 (by decide) hv.k)) fun _=>?_
 refine Ok.cond (fun h11=>Ok.bind (KBa (c:=⟨(),i,h⟩) hi) fun a ha=>Ok.bind (Ok.eq (OAZ _)) fun d hd=>Ok.bind (Ok.eq (EA4 hb.k)) fun e he=>Ok.bind (Ok.eq (FA4 (by simp_all [Vk,Ig]))) fun f hf=>SAC ha.2 (set h11 (by decide) hv.k)) fun _=>SAC hi hv
theorem FBi {b:SBox} {A:ByteArray} {y:SCall} (hb:DB b):∀ (j i m:Nat) (ci h:Int) (v:SCall),i+j=b.fBook.fThings.length→0≤ci→CI v→Ok (Ir (m+3+j+1) (.c1 A (i:Int) ci h b y v)) CR:=by
 have htl:=hb.tl
 intro j
 induction j with
 | zero=>
  grind [Ir,PAA,OA4]
 | succ j ih=>
  intro i m ci h v hi hc hv
  have hlt:i<b.fBook.fThings.length:=by omega
  have hw:=w_up (i:=i) (by omega)
  rw [aj,Ir]
  simp only [PAA,mk,hw,Int.toNat_natCast,getD_at hlt]
  rw [cond_d (by omega),cond_in (by omega)]
  exact Ok.cond (fun _=>Ok.bind (Am (c:=⟨(),ci,h⟩) hc) fun a ha=>Ok.cond (fun _=>Ok.chk (by simp_all) (ih (i+1) m _ _ _ (by omega) ha ⟨hv.o,hv.s,hb.t _ (List.getElem_mem hlt),hv.k,hv.x⟩)) fun _=>ih (i+1) m _ _ _ (by omega) ha hv) fun _=>ih (i+1) m _ _ _ (by omega) hc hv
theorem ZAl {m:Nat} {i h:Int} {b:SBox} {A:ByteArray} {y v:SCall} (hb:DB b) (hi:0≤i) (hv:CI v):Ok (Ir (m+3+b.fBook.fThings.length+1+1) (.c0 A i h b y v)) CR:=by
 have e:m+3+b.fBook.fThings.length+1=(m+b.fBook.fThings.length+1)+3:=by omega
 rw [Ir]
 simp only [PAA,mk]
 refine Ok.cond (fun ht=>Ok.bind (Xp (c:=⟨(),i,h⟩) hi) fun a ha=>?_) fun _=>(by simp_all [OA4])
 rw [decide_eq_true_eq] at ht
 have h1:=ha.1.1
 have h2:=ha.1.2.1 (by omega)
 have hv2:∀ d,CI ⟨v.fOp,v.fSession,(b.fBook.fThings.getD a.1.toNat d).fId,v.fKind,v.fText,v.fHidden,v.fFixed⟩:=fun d=>⟨hv.o,hv.s,by dsimp only;rw [getD_at (by omega)];exact hb.t _ (List.getElem_mem _),hv.k,hv.x⟩
 exact Ok.chk (by simp_all) (Ok.cond (fun _=>FBi hb b.fBook.fThings.length 0 m _ _ _ (Nat.zero_add _) ha.2 (hv2 _)) fun _=>(by rw [e];exact OA4 hb ha.2 (hv2 _)))
theorem DBI {x:Int} (h:x ∈ [(1:Int),2,2,3,4,4,4,5,5,5,6,7,8,9,10,11,12,13]):1≤x∧x≤13:=by
 simp only [List.mem_cons,List.not_mem_nil,or_false] at h
 omega
theorem EBI {c:SL01Cur} {b:SBox} {A:ByteArray} (hc:Df c) (hb:DB b):Ok (WAQ c b A) CR:=by
 have hsl:=hb.sl
 have htl:=hb.tl
 obtain ⟨m,hm⟩:=gm (n:=3+b.fBook.fThings.length+1) (by omega)
 have hm2:gas=m+3+b.fBook.fThings.length+1+1:=by omega
 rw [WAQ,EAq,mk,hm2]
 have e0:(⟨#[]⟩:ByteArray).size≠768:=by decide
 refine Ok.bind (JBC hc (by decide)) fun a ha=>Ok.cond (fun _=>ZAl hb ha.2 ⟨by simp,by simp,by simp,by simp,fun _=>e0⟩) fun hs=>?_
 have hs1:b.fSessions.length≠0:=fun q=>by simp_all
 have hgs:∀ (n:Nat) d,n<b.fSessions.length→0≤(b.fSessions.getD n d).fId∧(b.fSessions.getD n d).fId≤1000:=fun n d hn=>by rw [getD_at hn];exact hb.s _ (List.getElem_mem hn)
 refine Ok.bind (Xp ha.2) fun d hd=>?_
 have h1:=hd.1.1
 have h2:=hd.1.2.1 (by omega)
 have z:(decide ((0:Int)≤0) && decide ((0:Int)<(b.fSessions.length:Int)))=true:=by grind
 have some1:∀ {o:Int} {n:Nat} {q},(1≤o∧o≤13)→n<b.fSessions.length→CI ⟨o,(b.fSessions.getD n q).fId,0,0,⟨#[]⟩,false,false⟩:=fun ho hn=>⟨ho,hgs _ _ hn,by simp,by simp,fun _=>e0⟩
 exact Ok.chk (by simp_all) (Ok.chk z (Ok.cond (fun _=>Ok.bind (Am hd.2) fun e he=>Ok.cond (fun _=>Ok.chk z (ZAl hb he (some1 (by omega) (by omega)))) fun _=>ZAl hb he (some1 (DBI ha.1) (by omega))) fun _=>ZAl hb hd.2 (some1 (DBI ha.1) (by omega))))
def upE:SEvent:=⟨⟨0,0,0,0,⟨#[]⟩,false,false⟩,false,[],true⟩
def EvD (e:SEvent):Prop:=e=upE∨(CI e.fCall∧e.fLeft.length≤2)
theorem QA4 {c:SCall} (h:CI c) (hz:c.fText.size≤1000):Gq c=true:=by
 rw [Gq,Aa.2 h.o,Aa.2 h.s,Aa.2 h.t,Aa.2 h.k,decide_eq_true (by omega)];rfl
theorem FBI {e:SEvent} (h:EvD e) (hz:e.fCall.fText.size≤1000):Aw e:=by
 rcases h with rfl | ⟨h1,h2⟩
 ·have hn:VAl upE.fCall=true:=by rw [VAl,show ((ByteArray.toList upE.fCall.fText) == ByteArray.toList (⟨#[]⟩:ByteArray))=true from toList_self _];rfl
  exact ⟨by assumption,fun q=>by cases q⟩
 ·exact ⟨by grind [SAa,QA4],h1.x⟩
theorem HBi {e:SEvent} (h:EvD e) (hz:¬ e.fCall.fText.size≤1000):Aw ⟨⟨e.fCall.fOp,e.fCall.fSession,e.fCall.fThing,e.fCall.fKind,⟨#[108,111,110,103]⟩,e.fCall.fHidden,e.fCall.fFixed⟩,e.fCut,e.fLeft,e.fRise⟩:=by
 rcases h with rfl | ⟨h1,h2⟩
 ·exact absurd (Nat.zero_le _) hz
 ·have h4:(⟨#[108,111,110,103]⟩:ByteArray).size=4:=rfl
  exact FBI (.inr ⟨⟨h1.o,h1.s,h1.t,h1.k,fun _=>by simp_all⟩,h2⟩) (by simp_all)
def NR (l:SLife) (r:SEvent×SL01Cur×SLife):Prop:=EvD r.1∧Df r.2.1∧r.2.2=l
theorem AAm {c:SL01Cur} {x:SCall} {l:SLife} (hc:Df c) (hx:CI x):Ok ((Ez ⟨(),c.fI,c.fH⟩ 12).bind fun r14=>bif r14.1 then (Zq ⟨(),r14.2.fI,r14.2.fH⟩ 2000).bind fun r15=>(Zq ⟨(),r15.2.fI,r15.2.fH⟩ 50).bind fun r16=>(Ez ⟨(),r16.2.fI,r16.2.fH⟩ 30).bind fun r17=>bif r17.1 then some (upE,(⟨(),r17.2.fI,r17.2.fH⟩,l)) else some (⟨x,true,[r15.1,r16.1],false⟩,(⟨(),r17.2.fI,r17.2.fH⟩,l)) else (Ez ⟨(),r14.2.fI,r14.2.fH⟩ 30).bind fun r18=>bif r18.1 then some (upE,(⟨(),r18.2.fI,r18.2.fH⟩,l)) else some (⟨x,false,[],false⟩,(⟨(),r18.2.fI,r18.2.fH⟩,l))) (NR l):=
 Ok.bind (Am hc) fun a ha=>Ok.cond (fun _=>Ok.bind (Xp ha) fun b hb=>Ok.bind (Xp hb.2) fun d hd=>Ok.bind (Am hd.2) fun f hf=>Ok.cond (fun _=>Ok.ret ⟨.inl rfl,hf,rfl⟩) fun _=>Ok.ret ⟨.inr ⟨hx,Nat.le_refl _⟩,hf,rfl⟩) fun _=>Ok.bind (Am ha) fun f hf=>Ok.cond (fun _=>Ok.ret ⟨.inl rfl,hf,rfl⟩) fun _=>Ok.ret ⟨.inr ⟨hx,Nat.zero_le _⟩,hf,rfl⟩
theorem IBi {c:SL01Cur} {l:SLife} (hc:Df c) (hb:DB l.fBox):Ok (XAQ c l) (NR l):=by
 rw [XAQ,FAq,mk]
 refine Ok.cond (fun _=>Ok.bind (Am hc) fun a ha=>Ok.cond (fun _=>Ok.ret ⟨.inl rfl,ha,rfl⟩) fun _=>?_) fun _=>?_
 all_goals
  refine Ok.bind (EBI (by omega) hb) fun x hx=>Ok.cond (fun hr=>Ok.cond (fun h11=>Ok.bind (Am hx.2) fun d hd=>Ok.cond (fun _=>Ok.bind (Xp hd) fun f hf=>?_) fun _=>AAm hd hx.1) fun _=>AAm hx.2 hx.1) fun _=>AAm hx.2 hx.1
  rw [decide_eq_true_eq] at hr
  have f1:=hf.1.1
  have f2:=hf.1.2.1 hr
  have x1:=hx.1
  rw [beq_iff_eq] at h11
  exact Ok.chk (by simp_all) (AAm hf.2 ⟨x1.o,x1.s,x1.t,x1.k,fun q=>absurd (h11.symm.trans q) (by decide)⟩)
theorem HAO {l:SLife} {c:Int} {s:ByteArray} (h1:l.fCodes.length≤1000000) (h2:l.fReplies.length≤1000000):J6 l c s=some (WBG l c s):=by
 rw [J6,GAq,mk]
 try simp only [List.nil_append]
 rw [cond_d (by omega),cond_d (by omega),cond_d (by omega),cond_d (by omega)];rfl
theorem JBi {b:SBox} {t:Int} (h:b.fSessions.length≤140737488351232):SAd b t=some (Gs b t):=by
 have key:∀ (j i m:Nat),i+j=b.fSessions.length→ZAI (m+j+1) (.c0 t (i:Int) b)=some (match Y2 (b.fSessions.drop i) t i with | some j=>(j:Int) | none=> -1):=by
  intro j
  induction j with
  | zero=>
   intro i m hi
   rw [ZAI];simp only [RAd,mk]
   rw [cond_n (by omega),List.drop_of_length_le (by omega)];rfl
  | succ j ih=>
   intro i m hi
   have hil:i<b.fSessions.length:=by omega
   grind [w_up,ZAI,drop_at,Y2,RAd,Int.toNat_natCast]
 obtain ⟨m,hm⟩:=gm (n:=b.fSessions.length) (by omega)
 rw [SAd,LAq,hm]
 exact key b.fSessions.length 0 m (Nat.zero_add _)
theorem KBi {b:SBox} {c:SCall} (ht:0≤b.fBook.fTries∧b.fBook.fTries≤3) (hc:c.fText.size≤1000000000):TAd b c=some (KAN b c):=by
 rw [TAd,MAq,mk,KAN]
 simp only [Hl hc,Option.bind_some]
 by_cases h:b.fBook.fTries≥3
 ·rw [decide_eq_true h,show (b.fBook.fTries == 3)=true from beq_iff_eq.2 (by omega)];rfl
 ·rw [decide_eq_false h,show (b.fBook.fTries == 3)=false from beq_eq_false_iff_ne.2 (by omega),w64_id (by omega) (by omega)]
  cases (Ob c.fText).toList == b.fBook.fWord.toList <;> cases b.fBook.fTries == 0 <;> rfl
theorem RA4 {n:Int} (h:0≤n∧n<10000):XAI n=some (X4 n):=by
 obtain ⟨m,rfl⟩:∃ m:Nat,n=(m:Int):=⟨n.toNat,by omega⟩
 exact VBe (by omega)
theorem GBI {b:SBox} {c:SCall} {x:SThing} {ok:Bool} (h:PB b):DAR b c x ok=some (PAC b c x ok):=by
 have hl:=h.last
 have h8:=h.things
 rw [DAR,PAq,mk,PAC,newX,w64_id (by omega) (by omega),RA4 (by omega),show decide ((b.fBook.fThings.length:Int)≥8)=((b.fBook.fThings.length:Int) == 8) by grind,show decide (b.fBook.fLast≥1000)=(b.fBook.fLast == 1000) by grind]
 cases ok <;> cases (b.fBook.fThings.length:Int) == 8 <;> cases b.fBook.fLast == 1000 <;> cases x.fHidden <;> cases x.fFixed <;> rfl
theorem HBI {k t:ByteArray} {num:Int} (hk:k.size≤900000000) (ht:t.size≤800000000):AAJ k num t=some (Jb k num t):=by
 rw [AAJ,SAq,mk,Jb]
 have hw:w64 ((t.size:Int) - 16)=(t.size:Int) - 16:=w64_id (by omega) (by omega)
 rw [hw]
 by_cases h:t.size<16
 ·grind
 ·obtain ⟨n,hn⟩:∃ n,t.size=n+16:=⟨t.size - 16,by omega⟩
  obtain ⟨e1,e2⟩:=NBE t hn
  have hz:(t.size:Int) - 16=(n:Int):=by omega
  have hb:=bs_len t
  have hes:(t.extract 0 n).size=n:=by simp_all
  rw [PY (by grind),hz,Int.toNat_natCast,hes,TB (by grind),MBB hk,Option.bind_some,ZAB,show decide ((t.size:Int)<16)=false by grind,Bool.false_or]
  cases hm:maskOk num n
  ·rfl
  ·have h':=AAN.1 hm
   have hml:=Dy (bs k) (SN num) n
   rw [Bool.not_true,cond_false,cond_true,PY (by rfl),Int.toNat_natCast,OBB hk h'.1 (by omega),Option.bind_some,TB (by grind)]
   simp only [RAq,QAq,mk,Option.bind_some,D8,YZ (X0 _ _ _),e1,e2]
   cases hc:(Vr (bs k) num ((bs t).take (t.size - 16)) == (bs t).drop (t.size - 16))
   ·rfl
   ·rw [Bool.not_true,cond_false,NBB (by omega) (by simp_all [ofBytes_size]),Option.bind_some,YZ (QAZ _ _ _),e1,cond_true,show t.size - 16=n by omega]
theorem LBi {k t:ByteArray} (hk:k.size≤900000000) (ht:t.size≤800000000):XAd k t=some (Yv k t):=by
 have hz:=YAZ k t 0
 have hr0:=QBC (text:=(Jb k 0 t).1) (a:=0) (by omega) (Nat.zero_le _)
 rw [show ((0:Nat):Int)=0 from rfl] at hr0
 rw [XAd,UAq,mk,HBI hk ht,Option.bind_some,hr0,Option.bind_some,Yv]
 cases ho:(Jb k 0 t).2
 ·rfl
 ·have hx:=XAZ (text:=(Jb k 0 t).1) (a:=0) (by omega) (Nat.zero_le _)
  have hseal:=FBb ho
  generalize (Jb k 0 t).1=O at hz hx hseal
  rw [PY (by rfl),Ku]
  rcases hx with hx | ⟨v,hx,h0,h1,hA⟩
  ·rw [hx];rfl
  ·rw [hx]
   have hsz:=hA.size.resolve_left (by grind [Qv])
   simp only [Bool.not_true,cond_false,Bool.false_or]
   rw [w64_id (n:=(O.size:Int) - ((0+(SN v).length:Nat):Int)) (by omega) (by omega)]
   by_cases h3:v > (O.size:Int) - ((0+(SN v).length:Nat):Int)
   ·grind
   ·rw [PY (by simp_all),w64_id (n:=((0+(SN v).length:Nat):Int)+v) (by omega) (by omega),TB (by grind)]
    have hes:(O.extract ((0+(SN v).length:Nat):Int).toNat (((0+(SN v).length:Nat):Int)+v).toNat).size=v.toNat:=by grind [ByteArray.size_extract]
    generalize hS:O.extract ((0+(SN v).length:Nat):Int).toNat (((0+(SN v).length:Nat):Int)+v).toNat=S at hes
    rw [FA4 hk,Option.bind_some,PAN]
    by_cases h4:v > 400
    ·grind
    ·have e1:decide ((S.size:Int) > 400)=false:=decide_eq_false (by omega)
     have e:(decide (v > 20000) || decide (v > (O.size:Int) - ((0+(SN v).length:Nat):Int)))=false:=by grind
     have h2:=HA3 (l:=bs S) (by grind [bs_len])
     have hl:=bs_len S
     have hm:maskOk 0 ((ofBytes (Ju (bs S))).size:Int)=true:=by grind [AAN,ofBytes_size]
     have hfb:=GA3 (Uh S)
     rw [e,cond_false,e1,cond_false,Wh,hm,cond_true,YZ hfb,PY (by rfl),D8,YZ (fun x hx=>by
      rcases List.mem_append.1 hx with hx | hx
      ·exact G8 _ _ x hx
      ·exact X0 _ _ _ x hx)]
     grind [GBb,Uh]
theorem MBi (x:SThing):XAq x=some ⟨0,x.fKind,x.fHidden,x.fFixed,false,x.fWraps,x.fValue,0⟩:=rfl
theorem NBi {b:SBox} {c:SCall} (h:PB b) (hc:c.fText.size≤1000):DAe b c=some (RAa b c):=by
 have hz:=AA4 (Vk b) c.fText
 have hr:=(ZA3 (t:=(Yv (Vk b) c.fText).1) (by omega)).2.1
 have hk:(Vk b).size≤900000000:=by simp [Vk,Ig]
 rw [DAe,YAq,mk,RAa,inX]
 simp only [EA4 h.key,LBi hk (show c.fText.size≤800000000 by omega),hr,MBi,GBI h,Option.bind_some]
 cases (Yv (Vk b) c.fText).2 <;> rfl
theorem OBi (x:SThing) (d:Int):EAe x d=some (Bj x d):=by
 rw [EAe,ZAq,mk,MAZ,Option.bind_some,Bj,bne]
 grind
theorem IBI {b:SBox} {x:SThing} (h:b.fLives.length≤140737488351232):IAR b x=some (Cm b x):=by
 have key:∀ (j i m:Nat),i+j=b.fLives.length→CAJ (m+j+1) (.c0 (i:Int) b x)=some (match Du (b.fLives.drop i) x.fId i with | some j=>(b.fLives.getD j ⟨0,0⟩).fNext | none=>x.fNext):=by
  intro j
  induction j with
  | zero=>
   intro i m hi
   rw [CAJ];simp only [FAe,mk]
   rw [PY (by simp_all),List.drop_of_length_le (by omega)];rfl
  | succ j ih=>
   intro i m hi
   have hil:i<b.fLives.length:=by omega
   have hw:w64 ((i:Int)+1)=((i+1:Nat):Int):=by grind [w64_id]
   grind [CAJ,FAe,Int.toNat_natCast,drop_at,Du]
 obtain ⟨m,hm⟩:=gm (n:=b.fLives.length) (by omega)
 rw [IAR,AAr,hm]
 exact key b.fLives.length 0 m (Nat.zero_add _)
theorem XAa {s:ByteArray} (h:s.size≤1000000000):Jr s=some (Cb s):=by
 rw [Jr,CAr,mk,Hl h,Option.bind_some,Ig,TB (by rfl)];rfl
theorem JBI {s:ByteArray} {leaf:Int} (hl:0≤leaf∧leaf≤255) (hs:s.size≤100000):DAJ s leaf=some (Zg s leaf 10):=by
 have key:∀ (j i m:Nat),i+j=10→DAE (m+j+1) (.c0 s leaf (i:Int) (Zg s leaf i))=some (Zg s leaf 10):=by
  intro j
  induction j with
  | zero=>
   grind [DAE,HAe]
  | succ j ih=>
   intro i m hi
   have hw:w64 ((i:Int)+1)=((i+1:Nat):Int):=by grind [w64_id]
   have ho:(Zg s leaf i).length=i:=by simp [Zg]
   have hm:Zg s leaf i++[keyAt s leaf (i:Int)]=Zg s leaf (i+1):=by simp [Zg,List.range_succ]
   rw [aj m j,DAE]
   simp only [HAe,mk,hw]
   rw [TB (by grind),Zp hl.1 hl.2,Option.bind_some]
   show (bif decide (s.size+(b1 leaf).size≤_) then _ else _)=_
   rw [TB (by grind [Vf]),Zp (by omega) (by omega),Option.bind_some]
   show (bif decide ((s++b1 leaf).size+(b1 (i:Int)).size≤_) then _ else _)=_
   rw [TB (by grind [Vf])]
   show (bif decide ((s++b1 leaf++b1 (i:Int)).size+XAF.size≤_) then _ else _)=_
   have hO:XAF.size=1:=rfl
   rw [TB (by grind [Vf])]
   show (Jr (s++b1 leaf++b1 (i:Int)++XAF)).bind _=_
   rw [XAa (by grind [Vf]),Option.bind_some,ho,TB (by grind)]
   show DAE (m+j+1) (.c0 s leaf ((i+1:Nat):Int) (Zg s leaf i++[keyAt s leaf (i:Int)]))=_
   rw [hm]
   exact ih (i+1) m (by omega)
 obtain ⟨m,hm⟩:∃ m,gas=m+10+1:=⟨gas - 11,by rfl⟩
 rw [DAJ,DAr,hm]
 exact key 10 0 m rfl
theorem KBI {x:ByteArray} {leaf chain:Int} {f n:Nat} (hl:0≤leaf∧leaf≤255) (hc:0≤chain∧chain≤255) (hn:n≤15) (hf:f+n≤255) (hx:x.size≤100000):EAE x leaf chain (f:Int) (n:Int)=some (Ih leaf chain n f x):=by
 have hs:∀ i,(Ih leaf chain i f x).size≤100000:=fun i=>by
  cases i with
  | zero=>exact hx
  | succ i=>simp [WAF,Hy]
 have key:∀ (j i m:Nat),i+j=n→EAJ (m+j+1) (.c0 (Ih leaf chain i f x) leaf chain (f:Int) (n:Int) (i:Int))=some (Ih leaf chain n f x):=by
  intro j
  induction j with
  | zero=>
   grind [EAJ,IAe]
  | succ j ih=>
   intro i m hi
   have hw:w64 ((i:Int)+1)=((i+1:Nat):Int):=by grind [w64_id]
   have hsi:=hs i
   have hm:=WAF leaf chain f x i
   rw [aj m j,EAJ]
   simp only [IAe,mk,hw]
   have hfm:(f:Int).tmod 256=(f:Int):=by grind
   rw [TB (by grind),TB (by grind),Zp hl.1 hl.2,Option.bind_some,Zp hc.1 hc.2,Option.bind_some,hfm,w64_id (by omega) (by omega),Zp (by omega) (by omega)]
   grind [b1,Vf,Ih,XAa]
 obtain ⟨m,hm⟩:=gm (n:=n) (by omega)
 rw [EAE,EAr,hm]
 exact key n 0 m (Nat.zero_add _)
theorem PBi {keys:List ByteArray} {leaf:Int} (hk:keys.length=10) (hl:0≤leaf∧leaf≤255) (hs:∀ x ∈ keys,x.size≤100000):NAR keys leaf=some (O8 keys leaf):=by
 have key:∀ (j i m:Nat),i+j=10→FAJ (m+j+1) (.c0 keys leaf (Xc (Rn keys leaf i)) (i:Int))=some (O8 keys leaf):=by
  intro j
  induction j with
  | zero=>
   intro i m hi
   obtain rfl:i=10:=by omega
   have hz:=J3 (SAk (keys:=keys) (leaf:=leaf) (n:=10))
   rw [TAk] at hz
   rw [FAJ];simp only [JAe,mk]
   rw [PY (by rfl),XAa (by omega)];rfl
  | succ j ih=>
   intro i m hi
   have hlt:i<keys.length:=by omega
   have hw:w64 ((i:Int)+1)=((i+1:Nat):Int):=by grind [w64_id]
   have hz:=J3 (SAk (keys:=keys) (leaf:=leaf) (n:=i))
   rw [TAk] at hz
   have hc:=WAF leaf (i:Int) 0 keys[i] 14
   have hc2:(Ih leaf (i:Int) 15 0 keys[i]).size=4:=by simp_all [Hy]
   have hm:Xc (Rn keys leaf i)++Ih leaf (i:Int) 15 0 keys[i]=Xc (Rn keys leaf (i+1)):=by
    grind [Rn,List.range_succ,RAk,Xc,LAN]
   grind [KBI,FAJ,JAe,Int.toNat_natCast]
 obtain ⟨m,hm⟩:∃ m,gas=m+10+1:=⟨gas - 11,by rfl⟩
 rw [NAR,FAr,mk,PY (by simp_all),hm]
 exact key 10 0 m rfl
theorem LBI {s:ByteArray} (hs:s.size≤100000):PAR s=some (Tn s 4):=by
 have key:∀ (j i m:Nat),i+j=4→GAJ (m+j+1) (.c0 s (i:Int) (Tn s i))=some (Tn s 4):=by
  intro j
  induction j with
  | zero=>
   grind [GAJ,KAe]
  | succ j ih=>
   intro i m hi
   have hw:w64 ((i:Int)+1)=((i+1:Nat):Int):=by grind [w64_id]
   have ho:(Tn s i).length=i:=by simp [Tn]
   have hm:Tn s i++[O8 (Zg s (i:Int) 10) (i:Int)]=Tn s (i+1):=by simp [Tn,List.range_succ]
   rw [aj m j,GAJ]
   simp only [KAe,mk,hw]
   rw [TB (by grind),JBI (by omega) hs,Option.bind_some,PBi (GAa _ _ _) (by omega) (fun x hx=>by grind [HAa]),Option.bind_some,ho,TB (by grind),hm]
   exact ih (i+1) m (by omega)
 obtain ⟨m,hm⟩:∃ m,gas=m+4+1:=⟨gas - 5,by rfl⟩
 rw [PAR,GAr,hm]
 exact key 4 0 m rfl
theorem SA4 {level place:Int} {a b:ByteArray} (hl:0≤level∧level≤255) (hp:0≤place∧place≤255) (ha:a.size≤100000) (hb:b.size≤100000):RAA level place a b=some (Qk level place a b):=by
 have hN:YAF.size=1:=rfl
 rw [RAA,HAr,mk,Zp hl.1 hl.2,Option.bind_some,Zp hp.1 hp.2,Option.bind_some]
 show (bif decide ((b1 level).size+(b1 place).size≤_) then _ else _)=_
 rw [TB (by rfl)]
 show (bif decide ((b1 level++b1 place).size+a.size≤_) then _ else _)=_
 rw [TB (by grind [Vf])]
 show (bif decide ((b1 level++b1 place++a).size+b.size≤_) then _ else _)=_
 rw [TB (by grind [Vf])]
 show (bif decide ((b1 level++b1 place++a++b).size+YAF.size≤_) then _ else _)=_
 rw [TB (by grind [Vf])]
 show (Jr (b1 level++b1 place++a++b++YAF)).bind _=_
 rw [XAa (by grind [Vf])];rfl
theorem MBI {lv:Int} {a b c d:ByteArray} (hl:0≤lv∧lv≤255) (ha:a.size≤100000) (hb:b.size≤100000) (hc:c.size≤100000) (hd:d.size≤100000):O6 lv [a,b,c,d]=some [Qk lv 0 a b,Qk lv 1 c d]:=by
 obtain ⟨m,hm⟩:∃ m,gas=m+1+1+1:=⟨gas - 3,rfl⟩
 rw [O6,LAe,hm,SAA]
 simp only [RAR,mk]
 rw [TB (by rfl),TB (by rfl),TB (by rfl)]
 show (RAA lv 0 a b).bind _=_
 rw [SA4 hl (by omega) ha hb,Option.bind_some,TB (by rfl),SAA]
 simp only [RAR,mk]
 rw [TB (by rfl),TB (by rfl),TB (by rfl)]
 show (RAA lv 1 c d).bind _=_
 rw [SA4 hl (by omega) hc hd,Option.bind_some,TB (by rfl),SAA]
 rfl
theorem NBI {lv:Int} {a b:ByteArray} (hl:0≤lv∧lv≤255) (ha:a.size≤100000) (hb:b.size≤100000):O6 lv [a,b]=some [Qk lv 0 a b]:=by
 obtain ⟨m,hm⟩:∃ m,gas=m+1+1:=⟨gas - 2,rfl⟩
 rw [O6,LAe,hm,SAA]
 simp only [RAR,mk]
 rw [TB (by rfl),TB (by rfl),TB (by rfl)]
 show (RAA lv 0 a b).bind _=_
 rw [SA4 hl (by omega) ha hb,Option.bind_some,TB (by rfl),SAA]
 rfl
theorem QBi {a b c d:ByteArray} (ha:a.size≤100000) (hb:b.size≤100000) (hc:c.size≤100000) (hd:d.size≤100000):NAe [a,b,c,d]=some (EA3 a b c d):=by
 obtain ⟨m,hm⟩:∃ m,gas=m+1+1+1:=⟨gas - 3,rfl⟩
 have n1:=O3 1 0 a b
 have n2:=O3 1 1 c d
 rw [NAe,IAr,mk,PY (by rfl),hm,HAJ]
 simp only [MAe,mk]
 rw [TB (by rfl),MBI (by omega) ha hb hc hd,Option.bind_some,show w64 (1+1)=2 by rfl,HAJ]
 simp only [MAe,mk]
 rw [TB (by rfl),NBI (by omega) (by omega) (by omega),Option.bind_some,HAJ]
 rfl
theorem OBI {s:ByteArray} (hs:s.size≤100000):TAR s=some (U3 s):=by
 rw [TAR,JAr,mk,LBI hs,Option.bind_some,UAk,QBi (by simp [Rk]) (by simp [Rk]) (by simp [Rk]) (by simp [Rk])];rfl
theorem RBi {s:ByteArray} (hs:s.size≤1000000000):UAR s=some (Gu s):=by
 have hz:=Hy s
 have hin:=WAk (Uh (Cb s))
 have hln:=IAa (bs (Cb s))
 rw [bs_len,hz] at hln
 rw [UAR,KAr,XAa hs,Option.bind_some]
 have key:FAE gas (.c0 (Cb s) (Zh (Zd ((bs (Cb s)).take 0))) (0:Nat) (Zd ((bs (Cb s)).take 0)))=some (Gu s):=by
  refine loop_run (L:=FAE) (fun i:Nat=>IAJ.c0 (Cb s) (Zh (Zd ((bs (Cb s)).take i))) (i:Int) (Zd ((bs (Cb s)).take i))) 4 0 (by omega) (fun m=>?_) fun i hi m=>?_
  ·have h3:=JAa hin
   rw [List.take_of_length_le (by grind [bs_len]),FAE]
   simp only [OAe,mk]
   rw [cond_n (by omega),cond_d (by omega),Int.tdiv_eq_ediv_of_nonneg h3.1,Int.tmod_eq_emod_of_nonneg h3.1,w64_id (by omega) (by omega)];rfl
  ·have hlt:i<(Cb s).size:=by omega
   have hlt2:i<(bs (Cb s)).length:=by grind [bs_len]
   have hw:=w_up (i:=i) (by omega)
   have hb:=Ux (Cb s) (i:Int)
   have hl:(Zd ((bs (Cb s)).take i)).length≤8:=by grind [IAa]
   have h3:=JAa (a:=Zd ((bs (Cb s)).take i)) (WAk fun d hd=>Uh (Cb s) d (List.mem_of_mem_take hd))
   have hm:Zd ((bs (Cb s)).take i)++[bt (Cb s) (i:Int) / 16,bt (Cb s) (i:Int) % 16]=Zd ((bs (Cb s)).take (i+1)):=by
    rw [take_at hlt2,ABF,SAM hlt];rfl
   have hr:Zh (Zd ((bs (Cb s)).take i))+30 - bt (Cb s) (i:Int) / 16 - bt (Cb s) (i:Int) % 16=Zh (Zd ((bs (Cb s)).take (i+1))):=by
    rw [←hm,BBF,Zh,Zh,Zh];omega
   rw [FAE]
   simp only [OAe,mk,hw]
   rw [cond_d (by omega),cond_in (by omega),cond_in (by omega),cond_d (by omega),cond_in (by omega),cond_in (by omega),w64_id (n:=bt (Cb s) (i:Int)) (by omega) (by omega),Int.tdiv_eq_ediv_of_nonneg hb.1,Int.tmod_eq_emod_of_nonneg hb.1,w64_id (n:=bt (Cb s) (i:Int) / 16) (by omega) (by omega),w64_id (n:=Zh _+30) (by omega) (by omega),w64_id (n:=Zh _+30 - _) (by omega) (by omega),w64_id (by omega) (by omega),hr,hm]
 exact key
theorem SBi {keys:List ByteArray} {leaf:Int} {s:ByteArray} (hk:keys.length=10) (hl:0≤leaf∧leaf≤255) (hs:∀ x ∈ keys,x.size≤100000) (hm:s.size≤1000000000):PAe keys leaf s=some (Un keys leaf (Gu s) 10):=by
 obtain ⟨d1,d2⟩:=CBF s
 have hdig:=RBi hm
 generalize Gu s=D at d1 d2 hdig
 rw [PAe,LAr,mk,PY (by simp_all),hdig,Option.bind_some]
 refine loop_run (L:=WAR) (fun i:Nat=>JAJ.c0 keys leaf (i:Int) (Un keys leaf D i) D) 10 0 (by omega) (fun m=>?_) fun i hi m=>?_
 ·rfl
 ·have hlt:i<keys.length:=by omega
  have hlt2:i<D.length:=by omega
  have hw:=w_up (i:=i) (by omega)
  have hd:=d2 _ (List.getElem_mem hlt2)
  have ho:(Un keys leaf D i).length=i:=by simp [Un]
  grind [Un,List.range_succ,KBI,WAR,MAr]
theorem TBi {a b c d:ByteArray} {leaf:Int} (hl:0≤leaf∧leaf≤3) (ha:a.size≤100000) (hb:b.size≤100000) (hc:c.size≤100000) (hd:d.size≤100000):RAe [a,b,c,d] leaf=some (MAN a b c d leaf):=by
 obtain ⟨m,hm⟩:∃ m,gas=m+1+1+1:=⟨gas - 3,rfl⟩
 have n1:=O3 1 0 a b
 have n2:=O3 1 1 c d
 have lv2:=NBI (lv:=2) (a:=Qk 1 0 a b) (b:=Qk 1 1 c d) (by omega) (by omega) (by omega)
 have lv4:=MBI (lv:=1) (by omega) ha hb hc hd
 rw [RAe,NAr,mk,PY (by rfl),Rf,Option.bind_some,Aa.2 hl,Bool.not_true,cond_false,hm,YAR]
 simp only [QAe,mk,lv4,Option.bind_some]
 have h4:leaf=0∨leaf=1∨leaf=2∨leaf=3:=by omega
 have e2:w64 (1+1)=2:=by rfl
 rcases h4 with rfl | rfl | rfl | rfl
 all_goals
  rw [TB (by rfl)]
  first | rw [TB (by decide)] | rw [PY (by decide)]
  rw [TB (by rfl),TB (by rfl),YAR]
  simp only [QAe,mk,e2,lv2,Option.bind_some]
  rfl
theorem PBI {s m:ByteArray} {leaf:Int} (hl:0≤leaf∧leaf≤3) (hs:s.size≤100000) (hm:m.size≤1000000000):ZAR s leaf m=some (NAN s leaf m,true):=by
 rw [ZAR,OAr,mk,Rf,Option.bind_some,Aa.2 hl,Bool.not_true,cond_false,JBI (by omega) hs,Option.bind_some,SBi (GAa _ _ _) (by omega) (fun x hx=>by grind [HAa]) hm,Option.bind_some,LBI hs,Option.bind_some,UAk,TBi hl (by simp [Rk]) (by simp [Rk]) (by simp [Rk]) (by simp [Rk])];rfl
theorem UBi {s m:ByteArray} {i:Int} (hi:0≤i∧i≤15) (hs:s.size≤90000) (hm:m.size≤1000000000):SAe s i m=some (Iu s i m,true):=by
 have hL:OAN.size=1:=rfl
 have hT:ZAF.size=1:=rfl
 have hlow:(Hu s i).size=s.size+2:=by simp_all [Hu,Vf]
 have e1:w64 (i.tdiv 4)=i / 4:=by grind [w64_id]
 have e2:i.tmod 4=i % 4:=Int.tmod_eq_emod_of_nonneg hi.1
 have hlo:GAe s (i / 4)=some (Hu s i):=by
  rw [GAe,BAr,mk,Zp (by omega) (by omega),Option.bind_some]
  show (bif decide (s.size+(b1 (i / 4)).size≤_) then (bif decide ((s++b1 (i / 4)).size+OAN.size≤_) then some (s++b1 (i / 4)++OAN) else none) else none)=_
  rw [cond_d (by grind [Vf]),cond_d (by grind [Vf])];rfl
 rw [SAe,PAr,mk,Rf,Option.bind_some,Aa.2 hi,Bool.not_true,cond_false,e1,e2,hlo,Option.bind_some,OBI (by omega),Option.bind_some,PBI (by omega) (by omega) hm,Option.bind_some]
 show (bif decide (s.size+ZAF.size≤9223372036854775807) then (ZAR (s++ZAF) (i / 4) (U3 (Hu s i))).bind (fun r4=>some ((⟨r4.1,U3 (Hu s i),NAN (Hu s i) (i % 4) m⟩:SHyper),true)) else none)=_
 rw [cond_d (by omega),PBI (by omega) (by grind) (by simp [VAk])];rfl
theorem VBi {s:SSig} (h:V3 s):BAS s=some true:=by
 obtain ⟨o1,o2⟩:=h.once
 obtain ⟨q1,q2⟩:=h.path
 rw [BAS,QAr,mk,Rf,Option.bind_some,Aa.2 h.leaf,o1,q1]
 simp only [bne_self_eq_false,show ((10:Nat):Int)=10 from rfl,show ((2:Nat):Int)=2 from rfl,Bool.not_true,cond_false]
 have two:∀ m,P6 (m+2+1) (.c1 0 s)=some true:=loop_at (L:=P6) (fun i:Nat=>GAE.c1 (i:Int) s) 2 (fun m=>by
  simp_all [P6,AAS,mk]) fun i hi m=>by
  grind [w_up,P6,AAS]
 refine loop_run (L:=P6) (fun i:Nat=>GAE.c0 (i:Int) s) 10 3 (by omega) (fun m=>?_) fun i hi m=>?_
 all_goals grind [P6,AAS,w_up]
theorem QBI {s:SSig} (h:V3 s):TAe s=some (P8 s,true):=by
 obtain ⟨l1,s1⟩:=h.once
 obtain ⟨l2,s2⟩:=h.path
 have pre:∀ {l:List ByteArray} {i:Nat} (hlt:i<l.length),Xc (l.take i)++l[i]=Xc (l.take (i+1)):=fun {l i} hlt=>by
  grind [take_at,RAk,Xc,LAN]
 have psz:∀ {l:List ByteArray} (i:Nat),(∀ x ∈ l,x.size=4)→l.length≤10→(Xc (l.take i)).size≤40:=fun {l} i hs hl=>by
  rw [J3 (fun x hx=>hs x (List.mem_of_mem_take hx)),List.length_take];omega
 have hO:=J3 s1
 have two:∀ m,Gz (m+2+1) (.c1 (b1 s.fLeaf++Xc s.fOnce++Xc (s.fPath.take 0)) 0 s)=some (P8 s,true):=loop_at (L:=Gz) (fun i:Nat=>HAE.c1 (b1 s.fLeaf++Xc s.fOnce++Xc (s.fPath.take i)) (i:Int) s) 2 (fun m=>by
  rw [Gz]
  simp only [KAJ,mk]
  rw [cond_n (by omega),List.take_of_length_le (by omega)];rfl) fun i hi m=>by
  have hlt:i<s.fPath.length:=by omega
  have hw:=w_up (i:=i) (by omega)
  have hz:=psz i s2 (by omega)
  rw [Gz]
  simp only [KAJ,mk,hw,Int.toNat_natCast,getD_at hlt]
  rw [cond_d (by omega),cond_in (by omega),cond_d (by grind [Vf]),EAa (b1 s.fLeaf++Xc s.fOnce),pre hlt]
 rw [TAe,RAr,mk,VBi h,Option.bind_some,Bool.not_true,cond_false,Zp h.leaf.1 (by have:=h.leaf.2;omega),Option.bind_some,show ofBytes [s.fLeaf]=b1 s.fLeaf++Xc (s.fOnce.take 0) by rfl]
 refine loop_run (L:=Gz) (fun i:Nat=>HAE.c0 (b1 s.fLeaf++Xc (s.fOnce.take i)) (i:Int) s) 10 3 (by omega) (fun m=>?_) fun i hi m=>?_
 ·simp_all [Gz,KAJ,mk,List.take_of_length_le,Xc,LAN]
 ·have hlt:i<s.fOnce.length:=by omega
  have hw:=w_up (i:=i) (by omega)
  have hz:=psz i s1 (by omega)
  rw [Gz]
  simp only [KAJ,mk,hw,Int.toNat_natCast,getD_at hlt]
  rw [cond_d (by omega),cond_in (by omega),cond_d (by grind [Vf]),EAa (b1 s.fLeaf),pre hlt]
theorem WBi {s m:ByteArray} {i:Int} (hi:0≤i∧i≤15):UAe (Iu s i m)=some (FA3 (Iu s i m),true):=by
 have h1:V3 (Iu s i m).fTop:=ZAk (by omega)
 have h2:V3 (Iu s i m).fLow:=ZAk (by omega)
 have h3:(Iu s i m).fRoot.size=4:=VAk _
 have z1:=AAl h1
 have z2:=AAl h2
 rw [UAe,SAr,mk,QBI h1,Option.bind_some,QBI h2,Option.bind_some]
 dsimp only
 rw [Bool.not_true,cond_false,cond_false,PY (by simp_all),cond_d (by omega),cond_d (by simp_all)];rfl
theorem XBi {b:SBox} {c:SCall} {x:SThing} (h:PB b) (hc:c.fText.size≤1000) (hx:Ic b.fBook.fThings x.fId=some x) (hm:Bj x 3=true):VAe b c x=some (DAO b c x):=by
 obtain ⟨h1,h2,h3⟩:=DA4 hm
 obtain ⟨_,_,_,_,n0,n1,_⟩:=Uo h1
 have hv:=CAO h1 (.inr h2)
 have hl:=CA4 h.liv hx n0
 rw [VAe,TAr,mk,DAO,IBI h.lln,Option.bind_some]
 by_cases h16:Cm b x≥16
 ·rw [decide_eq_true h16,show (Cm b x == 16)=true from beq_iff_eq.2 (by omega)];rfl
 ·rw [decide_eq_false h16,show (Cm b x == 16)=false from beq_eq_false_iff_ne.2 (by omega),cond_false,cond_false,UBi (by omega) (by omega) (by omega),Option.bind_some,WBi (by omega),Option.bind_some,w64_id (n:=x.fNext+3) (by omega) (by omega),bne,BAl]
  cases Cm b x == x.fNext
  ·rfl
  ·by_cases q:16<x.fNext+3
   ·rw [if_pos q,decide_eq_true (by omega:x.fNext+3 > 16)];rfl
   ·rw [if_neg q,decide_eq_false (by omega:¬ x.fNext+3 > 16)];rfl
theorem RBI {s:ByteArray} {n:Nat} (h:s.size=8*n) (hn:n≤1000):LAJ s=some (up (Uk (Zb s) n)):=by
 have inner:∀ i,i<n→∀ (m:Nat) (o:List Nat),_:=fun i hi=>fun m o=>(Tc (Lp:=TAA) (st:=fun j (x:Nat)=>.c1 s ((8*i:Nat):Int) (x:Int) (7 - (j:Int)) (up o)) (f:=fun j x=>x*256+Zb s (8*i+(7 - j))) (P:=fun j x=>x<256 ^ j) (n:=8) 1 (fun m j x hj hx=>by
  have hb:=U8 s (8*i+(7 - j))
  have hp:256 ^ (j+1)≤18446744073709551616:=Nat.le_trans (Nat.pow_le_pow_right (by decide) (show j+1≤8 by omega)) (by decide)
  have hx2:x*256+Zb s (8*i+(7 - j))<256 ^ (j+1):=by omega
  have hlt:=Nat.lt_of_lt_of_le hx2 hp
  refine ⟨?_,hx2⟩
  have e1:w64 (((8*i:Nat):Int)+(7 - (j:Int)))=((8*i+(7 - j):Nat):Int):=by
   grind [wn]
  have e2:w64 (7 - (j:Int) - 1)=7 - ((j+1:Nat):Int):=by grind [w64_id]
  have e3:wu64 ((x:Int)*256)=((x*256:Nat):Int):=by rw [show (x:Int)*256=((x*256:Nat):Int) by omega];exact Hq (n:=x*256) (Nat.lt_of_le_of_lt (Nat.le_add_right _ _) hlt)
  have e4:wu64 ((Zb s (8*i+(7 - j)):Nat):Int)=((Zb s (8*i+(7 - j)):Nat):Int):=Hq (Nat.lt_trans hb (by decide))
  have e5:wu64 (((x*256:Nat):Int)+((Zb s (8*i+(7 - j)):Nat):Int))=((x*256+Zb s (8*i+(7 - j)):Nat):Int):=Hq (n:=x*256+Zb s (8*i+(7 - j))) hlt
  rw [TAA]
  simp only [DAS,mk,e1,e2,Nu,e3,e4,e5]
  grind) 8 0 m 0 rfl (by decide)).1
 have s1:=Tc (Lp:=TAA) (st:=fun i o=>.c0 s ((8*i:Nat):Int) (up o)) (f:=fun i o=>o++[Nq (Zb s) i]) (P:=fun i o=>o.length=i) (n:=n) 10 (fun m i o hi ho=>by
  refine ⟨?_,by simp_all⟩
  have e1:w64 (((8*i:Nat):Int)+8)=((8*(i+1):Nat):Int):=wn (n:=8*(i+1)) (by omega)
  grind [TAA,DAS,up,Nq])
 obtain ⟨m,hm⟩:∃ m,gas=m+1+n*10:=⟨gas - (1+n*10),by have:=gas_lt (n:=1+n*10) (by omega);omega⟩
 rw [LAJ,UAr,hm]
 refine (s1 n 0 (m+1) [] (by omega) rfl).1.trans ?_
 have e1:w64 (((8*n:Nat):Int)+8)=((8*n+8:Nat):Int):=wn (n:=8*n+8) (by omega)
 rw [PAa,TAA]
 simp only [DAS,mk,e1]
 rw [PY (by grind)];rfl
theorem YBi:WAe=some (up Lu):=by
 rfl
theorem ZBi:GAS=some (up I4):=by
 obtain ⟨m,hm⟩:∃ m,gas=m+300:=⟨gas - 300,rfl⟩
 rw [GAS,WAr,hm]
 kernel_rfl
theorem SBI {x n:Nat} (hx:x<18446744073709551616) (hn:n<64):NAJ (x:Int) (n:Int)=some ((Cj n x:Nat):Int):=by
 obtain ⟨m,hm⟩:∃ m,gas=m+1+n*1:=⟨gas - (n+1),by have:=gas_lt (n:=n+1) (by omega);omega⟩
 have hp:∀ i,i≤63→2 ^ i≤9223372036854775808:=fun i hi=>Nat.pow_le_pow_right (n:=2) (by decide) hi
 rw [NAJ,YAr,hm]
 have h:=Tc (Lp:=MAJ) (st:=fun i (low:Nat)=>.c0 (x:Int) (n:Int) (low:Int) (i:Int)) (f:=fun _ low=>low*2) (P:=fun i low=>low=2 ^ i) (n:=n) 1 (fun m i low hi hl=>by
  refine ⟨?_,by omega⟩
  have h1:=hp (i+1) (by omega)
  rw [Nat.pow_succ,←hl] at h1
  have hw:w64 ((i:Int)+1)=((i+1:Nat):Int):=wn (n:=i+1) (by omega)
  have hw2:wu64 ((low:Int)*2)=((low*2:Nat):Int):=Hq (n:=low*2) (by omega)
  simp_all [MAJ,XAe,mk]) n 0 (m+1) 1 (by omega) rfl
 refine h.1.trans ?_
 rw [h.2,MAJ]
 simp only [XAe,mk]
 rw [PY (by simp)]
 by_cases h0:n=0
 ·simp_all [KBF]
 ·have e1:(9223372036854775808:Int).tdiv ((2 ^ n:Nat):Int)=((2 ^ (63 - n):Nat):Int):=by
   show ((9223372036854775808 / 2 ^ n:Nat):Int)=_
   rw [show 9223372036854775808=2 ^ 63 from rfl,Nat.pow_div (by omega) (by decide)]
  have h1:=hp (63 - n) (by omega)
  have e2:wu64 (((2 ^ (63 - n):Nat):Int)*2)=((2 ^ (64 - n):Nat):Int):=by
   have:2 ^ (64 - n)=2 ^ (63 - n)*2:=by rw [←Nat.pow_succ];grind
   grind [Hq]
  have e3:wu64 ((x:Int)*((2 ^ n:Nat):Int))=(((x*2 ^ n) % 18446744073709551616:Nat):Int):=GBF (x*2 ^ n)
  grind [Hq,Cj,SAN]
theorem ABj {a:List Nat} (ha:Xf a) {c:Nat} (hc:c<18446744073709551616):KAS (up a) (up Lu) (c:Int)=some (up (UAN a c)):=by
 obtain ⟨hl,hw⟩:=ha
 have ww:∀ n:Nat,n<100→w64 (n:Int)=(n:Int):=fun n h=>wn (by omega)
 have w1:∀ i:Nat,i<30→w64 ((i:Int)+1)=((i+1:Nat):Int):=fun i h=>ww (i+1) (by omega)
 have s1:=Tc (Lp:=Ym) (st:=fun i v=>.c0 (up a) (up Lu) (c:Int) (i:Int) (up v)) (f:=fun i v=>v.set i (Ll a i)) (P:=fun _ v=>v.length=5) (n:=5) 1 (fun m i v hi hv=>by
  refine ⟨?_,OBF hv⟩
  have e5:w64 ((i:Int)+5)=((i+5:Nat):Int):=ww (i+5) (by omega)
  have e10:w64 ((i:Int)+10)=((i+10:Nat):Int):=ww (i+10) (by omega)
  have e15:w64 ((i:Int)+15)=((i+15:Nat):Int):=ww (i+15) (by omega)
  have e20:w64 ((i:Int)+20)=((i+20:Nat):Int):=ww (i+20) (by omega)
  rw [Ym]
  simp only [Gx,mk,w1 i (by omega),e5,e10,e15,e20,Int.toNat_natCast,Je]
  rw [TB (by grind),TB (Fa (by omega)),TB (Fa (by omega)),TB (Fa (by omega)),TB (Fa (by omega)),TB (Fa (by omega)),TB (Fa (by omega)),Iq (hw.get _) (hw.get _),Iq (xlt (hw.get _) (hw.get _)) (hw.get _),Iq (xlt (xlt (hw.get _) (hw.get _)) (hw.get _)) (hw.get _),Iq (xlt (xlt (xlt (hw.get _) (hw.get _)) (hw.get _)) (hw.get _)) (hw.get _),Jh]
  rfl)
 have s2i:∀ x:Nat,x<5→∀ (m:Nat) (b:List Nat),b.length=25→_:=fun x hx=>fun m b hb=>(Tc (Lp:=Ym) (st:=fun y b=>.c2 (up a) (up Lu) (c:Int) (x:Int) ((dN a x:Nat):Int) (y:Int) (up ((List.range 5).map (Ll a))) (up b)) (f:=fun y b=>b.set (y+5*((2*x+3*y) % 5)) (Cj (Lu.getD (x+5*y) 0) (Zv a (x+5*y)))) (P:=fun _ b=>b.length=25) (n:=5) 1 (fun m y b hy hb=>by
  refine ⟨?_,AAG hb⟩
  have e1:w64 (5*(y:Int))=((5*y:Nat):Int):=ww (5*y) (by omega)
  have e2:w64 ((x:Int)+((5*y:Nat):Int))=((x+5*y:Nat):Int):=ww (x+5*y) (by omega)
  have e3:w64 (2*(x:Int))=((2*x:Nat):Int):=ww (2*x) (by omega)
  have e4:w64 (3*(y:Int))=((3*y:Nat):Int):=ww (3*y) (by omega)
  have e5:w64 (((2*x:Nat):Int)+((3*y:Nat):Int))=((2*x+3*y:Nat):Int):=ww (2*x+3*y) (by omega)
  have e6:((2*x+3*y:Nat):Int).tmod 5=(((2*x+3*y) % 5:Nat):Int):=rfl
  have hz:(2*x+3*y) % 5<5:=Nat.mod_lt _ (by decide)
  have e7:w64 (5*(((2*x+3*y) % 5:Nat):Int))=((5*((2*x+3*y) % 5):Nat):Int):=ww (5*((2*x+3*y) % 5)) (by omega)
  have e8:w64 ((y:Int)+((5*((2*x+3*y) % 5):Nat):Int))=((y+5*((2*x+3*y) % 5):Nat):Int):=ww (y+5*((2*x+3*y) % 5)) (by omega)
  have ht:a.getD (x+5*y) 0 ^^^ dN a x=Zv a (x+5*y):=by rw [Zv,show (x+5*y) % 5=x by omega]
  rw [Ym]
  simp only [Gx,mk,w1 y (by omega),e1,e2,e3,e4,e5,e6,e7,e8,Int.toNat_natCast,Je]
  rw [TB (by grind),TB (Fa (by omega)),TB (Fa (by show x+5*y<25;omega)),Iq (hw.get _) (MBF hw _),ht,SBI (KA3 hw _) (NBF _),Option.bind_some,TB (Fa (by omega)),Jh]) 5 0 m b rfl hb)
 have s2:=Tc (Lp:=Ym) (st:=fun x b=>.c1 (up a) (up Lu) (c:Int) (x:Int) (up ((List.range 5).map (Ll a))) (up b)) (f:=fun x b=>Oa (fun y b=>b.set (y+5*((2*x+3*y) % 5)) (Cj (Lu.getD (x+5*y) 0) (Zv a (x+5*y)))) 5 0 b) (P:=fun _ b=>b.length=25) (n:=5) 7 (fun m x b hx hb=>by
  obtain ⟨i1,i2⟩:=s2i x hx (m+1) b hb
  refine ⟨?_,i2⟩
  have e4:w64 ((x:Int)+4)=((x+4:Nat):Int):=ww (x+4) (by omega)
  have e1:w64 ((x:Int)+1)=((x+1:Nat):Int):=ww (x+1) (by omega)
  have e2:((x+4:Nat):Int).tmod 5=(((x+4) % 5:Nat):Int):=rfl
  have e3:((x+1:Nat):Int).tmod 5=(((x+1) % 5:Nat):Int):=rfl
  have h4:(x+4) % 5<5:=Nat.mod_lt _ (by decide)
  have h1:(x+1) % 5<5:=Nat.mod_lt _ (by decide)
  have hlen:((List.range 5).map (Ll a)).length=5:=by rfl
  rw [show m+7=m+1+5*1+1 from rfl,Ym]
  simp only [Gx,mk,e4,e1,e2,e3,Int.toNat_natCast,Je]
  rw [TB (by grind),TB (Fa (by omega)),TB (Fa (by omega)),NAa h1,NAa h4]
  have hr:NAJ ((Ll a ((x+1) % 5):Nat):Int) 1=some ((Cj 1 (Ll a ((x+1) % 5)):Nat):Int):=SBI (n:=1) (J4 hw _) (by decide)
  rw [hr,Option.bind_some,Iq (J4 hw _) (SAN (by decide) (J4 hw _))]
  refine i1.trans ?_
  grind [Ym,Gx])
 have hb:=DAl hw
 have s3i:∀ x:Nat,x<5→∀ (m:Nat) (o:List Nat),o.length=25→_:=fun x hx=>fun m o ho=>(Tc (Lp:=Ym) (st:=fun y o=>.c4 (c:Int) (x:Int) (y:Int) (up (Kq a)) (up o)) (f:=fun y o=>o.set (x+5*y) (Jq (Kq a) (x+5*y))) (P:=fun _ o=>o.length=25) (n:=5) 1 (fun m y o hy ho=>by
  refine ⟨?_,AAG ho⟩
  have hbl:=hb.1
  have e1:w64 (5*(y:Int))=((5*y:Nat):Int):=ww (5*y) (by omega)
  have e2:w64 ((x:Int)+((5*y:Nat):Int))=((x+5*y:Nat):Int):=ww (x+5*y) (by omega)
  have e3:w64 ((x:Int)+1)=((x+1:Nat):Int):=ww (x+1) (by omega)
  have e4:w64 ((x:Int)+2)=((x+2:Nat):Int):=ww (x+2) (by omega)
  have e5:((x+1:Nat):Int).tmod 5=(((x+1) % 5:Nat):Int):=rfl
  have e6:((x+2:Nat):Int).tmod 5=(((x+2) % 5:Nat):Int):=rfl
  have h1:(x+1) % 5<5:=Nat.mod_lt _ (by decide)
  have h2:(x+2) % 5<5:=Nat.mod_lt _ (by decide)
  have e7:w64 ((((x+1) % 5:Nat):Int)+((5*y:Nat):Int))=(((x+1) % 5+5*y:Nat):Int):=ww ((x+1) % 5+5*y) (by omega)
  have e8:w64 ((((x+2) % 5:Nat):Int)+((5*y:Nat):Int))=(((x+2) % 5+5*y:Nat):Int):=ww ((x+2) % 5+5*y) (by omega)
  have hv:(Kq a).getD (x+5*y) 0 ^^^ ((18446744073709551615 - (Kq a).getD ((x+1) % 5+5*y) 0) &&& (Kq a).getD ((x+2) % 5+5*y) 0)=Jq (Kq a) (x+5*y):=by rw [Jq,show (x+5*y) % 5=x by omega,show (x+5*y) / 5=y by omega]
  rw [Ym]
  simp only [Gx,mk,w1 y (by omega),e1,e2,e3,e4,e5,e6,e7,e8,Int.toNat_natCast,Je]
  rw [TB (by grind),TB (Fa (by omega)),TB (Fa (by omega)),TB (Fa (by omega)),TB (Fa (by omega)),XBe (hb.2.get _),n64 (by omega) (hb.2.get _),Iq (hb.2.get _) (nlt (by omega)),hv,Jh]) 5 0 m o rfl ho)
 have s3:=Tc (Lp:=Ym) (st:=fun x o=>.c3 (c:Int) (x:Int) (up (Kq a)) (up o)) (f:=fun x o=>Oa (fun y o=>o.set (x+5*y) (Jq (Kq a) (x+5*y))) 5 0 o) (P:=fun _ o=>o.length=25) (n:=5) 7 (fun m x o hx ho=>by
  obtain ⟨i1,i2⟩:=s3i x hx (m+1) o ho
  grind [Ym,Gx])
 obtain ⟨m,hm⟩:∃ m,gas=m+1+5*7+1+5*7+1+5*1:=⟨gas - 78,rfl⟩
 rw [KAS,ZAr,hm]
 obtain ⟨a1,a2⟩:=s1 5 0 (m+1+5*7+1+5*7+1) [0,0,0,0,0] rfl rfl
 refine a1.trans ?_
 rw [ABf,Ym]
 simp only [Gx,mk]
 rw [PY (by rfl)]
 obtain ⟨b1,b2⟩:=s2 5 0 (m+1+5*7+1) (List.replicate 25 0) rfl rfl
 refine b1.trans ?_
 rw [DBf (fun n q=>Cj n (Zv a q)),Ym]
 simp only [Gx,mk]
 rw [PY (by rfl)]
 obtain ⟨c1,c2⟩:=s3 5 0 (m+1) (List.replicate 25 0) rfl rfl
 refine c1.trans ?_
 have hch:=LA3 hb.2
 rw [BBf,Ym]
 simp only [Gx,mk]
 rw [PY (by rfl),show (0:Int).toNat=0 from rfl,Je,Iq (hch.2.get _) hc,Jh]
 rfl
theorem TBI {a:List Nat} (ha:Xf a):OAJ (up a)=some (up (LAa a)):=by
 have s:=Tc (Lp:=MAS) (st:=fun i a=>.c0 (i:Int) (up a) (up Lu) (up I4)) (f:=fun i a=>UAN a (I4.getD i 0)) (P:=fun _ a=>Xf a) (n:=24) 1 (fun m i a hi ha=>by
  refine ⟨?_,MA3 ha.2 (MAa i)⟩
  have w1:w64 ((i:Int)+1)=((i+1:Nat):Int):=wn (n:=i+1) (by omega)
  rw [MAS]
  simp only [BAs,mk,w1,Int.toNat_natCast,Je]
  rw [TB (by grind),TB (Fa (by assumption)),ABj ha (MAa i),Option.bind_some])
 obtain ⟨m,hm⟩:∃ m,gas=m+1+24*1:=⟨gas - 25,rfl⟩
 rw [OAJ,AAs,YBi,Option.bind_some,ZBi,Option.bind_some,hm]
 refine (s 24 0 (m+1) a rfl ha).1.trans ?_
 rfl
theorem BBj (v:Nat→Nat→Nat):Oa (fun i o=>o++(List.range 8).map (v i)) 25 0 []=(List.range 200).map (fun p=>v (p / 8) (p % 8)):=by kernel_rfl
theorem UBI {a:List Nat} (ha:Xf a):QAJ (up a)=some (ofBytes (up (Oq a))):=by
 have hal:=ha.1
 have inner:∀ (i:Nat) (x:Nat) (m:Nat) (o:List Nat),x<18446744073709551616→o.length≤1000→_:=fun i x m o hx ho=>(Tc (Lp:=U6) (st:=fun j o=>.c1 (up a) (i:Int) ((x / 2 ^ (8*j):Nat):Int) (j:Int) (up o)) (f:=fun j o=>o++[x / 2 ^ (8*j) % 256]) (P:=fun j o=>o.length≤1000+j) (n:=8) 1 (fun m j o hj ho=>by
  refine ⟨?_,by grind⟩
  have w1:w64 ((j:Int)+1)=((j+1:Nat):Int):=wn (n:=j+1) (by omega)
  have e1:wu64 (((x / 2 ^ (8*j):Nat):Int).tdiv 256)=((x / 2 ^ (8*(j+1)):Nat):Int):=by
   have:x / 2 ^ (8*(j+1))=x / 2 ^ (8*j) / 256:=by grind [Nat.div_div_eq_div_mul]
   rw [this]
   exact Hq (n:=x / 2 ^ (8*j) / 256) (Nat.lt_of_le_of_lt (Nat.div_le_self _ _) (Nat.lt_of_le_of_lt (Nat.div_le_self _ _) hx))
  grind [w8_id,U6,PAJ,up]) 8 0 m o rfl (by omega)).1
 have s1:=Tc (Lp:=U6) (st:=fun i o=>.c0 (up a) (i:Int) (up o)) (f:=fun i o=>o++(List.range 8).map fun j=>a.getD i 0 / 2 ^ (8*j) % 256) (P:=fun i o=>o.length=8*i) (n:=25) 10 (fun m i o hi ho=>by
  refine ⟨?_,by grind⟩
  have w1:w64 ((i:Int)+1)=((i+1:Nat):Int):=wn (n:=i+1) (by omega)
  have hx:=ha.2.get i
  rw [show m+10=m+1+8*1+1 from rfl,U6]
  simp only [PAJ,mk,Int.toNat_natCast,Je]
  rw [TB (by grind [Ia]),TB (Fa (by omega))]
  have h:=inner i (a.getD i 0) (m+1) o hx (by omega)
  rw [show ((a.getD i 0 / 2 ^ (8*0):Nat):Int)=((a.getD i 0:Nat):Int) by omega] at h
  refine h.trans ?_
  rw [VAN,List.range'_eq_map_range,U6]
  simp_all [PAJ,mk])
 obtain ⟨m,hm⟩:∃ m,gas=m+1+25*10:=⟨gas - 251,by rfl⟩
 rw [QAJ,CAs,hm]
 refine (s1 25 0 (m+1) [] (by omega) rfl).1.trans ?_
 rw [BBj (fun i j=>a.getD i 0 / 2 ^ (8*j) % 256),U6]
 simp only [PAJ,mk]
 rw [PY (by simp_all [Ia])];rfl
theorem CBj {s:ByteArray} {f:Nat} (hs:s.size≤2000) (hf:f<256):PAS s 168 (f:Int)=some (YAN s f):=by
 obtain ⟨q,hq,hq2⟩:=WBF s f
 have hbuf:=VBF s hf
 have sp:=Tc (Lp:=Qp) (st:=fun i l=>.c0 168 (up (List.replicate 25 0)) (up l)) (f:=fun _ l=>l++[0]) (P:=fun i l=>l.length=s.size+1+i) (n:=(168 - (s.size+1) % 168) % 168) 1 (fun m i l hi hl=>by
  grind [Qp,UAA,Ia,Wn])
 have si:∀ (p:Nat) (st:List Nat),p<q→Xf st→∀ m,Qp (m+21*1) (.c2 168 ((168*p:Nat):Int) ((0:Nat):Int) (up st) (up (Ae s f)) (up (Uk (fun i=>(Ae s f).getD (168*p+i) 0) 21)))=Qp m (.c2 168 ((168*p:Nat):Int) ((21:Nat):Int) (up (FAG st fun i=>(Ae s f).getD (168*p+i) 0)) (up (Ae s f)) (up (Uk (fun i=>(Ae s f).getD (168*p+i) 0) 21))):=by
  intro p st hp hst m
  have hg:∀ i,(fun i=>(Ae s f).getD (168*p+i) 0) i<256:=fun i=>hbuf.get _
  generalize hgg:(fun i=>(Ae s f).getD (168*p+i) 0)=g at hg
  have hll:(Uk g 21).length=21:=by rfl
  have hlw:=IBf hg 21
  obtain ⟨a1,a2,a3,a4⟩:=Tc (Lp:=Qp) (st:=fun i v=>.c2 168 ((168*p:Nat):Int) (i:Int) (up v) (up (Ae s f)) (up (Uk g 21))) (f:=fun i v=>v.set i (v.getD i 0 ^^^ (Uk g 21).getD i 0)) (P:=fun i v=>v.length=25∧Em v∧∀ k,k<25→v.getD k 0=if k<i then st.getD k 0 ^^^ Nq g k else st.getD k 0) (n:=21) 1 (fun m i v hi hv=>by
   obtain ⟨v1,v2,v3⟩:=hv
   refine ⟨?_,AAG v1,v2.set _ (xlt (v2.get _) (hlw.get _)),fun k hk=>?_⟩
   ·have w1:w64 ((i:Int)+1)=((i+1:Nat):Int):=wn (n:=i+1) (by omega)
    rw [Qp]
    simp only [UAA,mk,w1,Int.toNat_natCast,Je]
    rw [Iq (v2.get _) (hlw.get _),Jh,TB (by grind [Ia]),TB (Fa (by omega)),TB (Fa (by omega)),TB (Fa (by omega))]
   grind [Uk]) 21 0 m st (by omega) ⟨hst.1,hst.2,fun k hk=>by rfl⟩
  refine a1.trans ?_
  rw [show Oa (fun i v=>v.set i (v.getD i 0 ^^^ (Uk g 21).getD i 0)) 21 0 st=FAG st g from GAl (by assumption) fun k hk=>by
   simp_all [FAG]]
 have so:=Tc (Lp:=Qp) (st:=fun p st=>.c1 168 ((168*p:Nat):Int) (up st) (up (Ae s f))) (f:=WAN (Ae s f)) (P:=fun _ st=>Xf st) (n:=q) 23 (fun m p st hp hst=>by
  refine ⟨?_,VA3 hbuf hst⟩
  have e1:w64 (((168*p:Nat):Int)+168)=((168*(p+1):Nat):Int):=by rw [show ((168*p:Nat):Int)+168=((168*(p+1):Nat):Int) by omega];exact wn (n:=168*(p+1)) (by omega)
  have hbl:((up (Ae s f)).drop (168*p)).take (168*(p+1) - 168*p)=up (((Ae s f).drop (168*p)).take 168):=by
   grind [up,List.map_drop,List.map_take]
  have hsz:(ofBytes (up (((Ae s f).drop (168*p)).take 168))).size=8*21:=by grind [ofBytes_size,Ia]
  have hlt:∀ x ∈ ((Ae s f).drop (168*p)).take 168,x<256:=fun x hx=>hbuf x (List.mem_of_mem_drop (List.mem_of_mem_take hx))
  have hlan:Uk (Zb (ofBytes (up (((Ae s f).drop (168*p)).take 168)))) 21=Uk (fun i=>(Ae s f).getD (168*p+i) 0) 21:=by
   refine List.map_congr_left fun k hk=>?_
   grind [PA3,FAl]
  rw [show m+23=(m+1)+21*1+1 from rfl,Qp]
  simp only [UAA,mk,e1,Int.toNat_natCast]
  rw [TB (by simp_all [Ia]),TB (by rw [Bool.and_eq_true,Bool.and_eq_true,decide_eq_true_eq,decide_eq_true_eq,decide_eq_true_eq,Ia];omega),hbl,RBI hsz (by omega),Option.bind_some,hlan]
  refine (si p st hp hst (m+1)).trans ?_
  rw [Qp]
  simp only [UAA,mk,e1]
  rw [PY (by rfl),TBI (XBF hst fun _=>hbuf.get _),Option.bind_some];rfl)
 have hpad:(168 - (s.size+1) % 168) % 168<168:=Nat.mod_lt _ (by decide)
 have hl1:(Md s++[f]).length=s.size+1:=by simp [EAG]
 obtain ⟨m,hm⟩:∃ m,gas=(m+1+q*23)+1+((168 - (s.size+1) % 168) % 168)*1:=⟨gas - (1+q*23+1+(168 - (s.size+1) % 168) % 168),by have:=gas_lt (n:=1+q*23+1+(168 - (s.size+1) % 168) % 168) (by omega);omega⟩
 have hzs:(bytesOf s).length=s.size:=by simp_all [CAG,Ia]
 rw [PAS,DAs,mk,hm,TB (by grind),TB (by grind),CAG,Wn,show (25:Int).toNat=25 from rfl,←Y3]
 refine (sp ((168 - (s.size+1) % 168) % 168) 0 _ (Md s++[f]) (by omega) hl1).1.trans ?_
 have hpl:Oa (fun _ l=>l++[0]) ((168 - (s.size+1) % 168) % 168) 0 (Md s++[f])=Pj (Md s++[f]):=by simp_all [VAN,Pj]
 have hp8:B8 (Pj (Md s++[f])):=RA3 (TA3 s hf)
 have hplen:=QA3 (Md s++[f])
 rw [hl1] at hplen
 have e2:((up (Pj (Md s++[f]))).length:Int).tmod 168=(((up (Pj (Md s++[f]))).length % 168:Nat):Int):=rfl
 have e3:w64 (((up (Pj (Md s++[f]))).length:Int) - 1)=(((Pj (Md s++[f])).length - 1:Nat):Int):=by
  grind [Ia,wn]
 rw [hpl,Qp]
 simp only [UAA,mk,e2,e3,Int.toNat_natCast,Je]
 rw [TB (by rfl),PY (by grind [Ia]),TB (Fa (by omega)),TB (Fa (by omega)),show (128:Int)=((128:Nat):Int) from rfl,x8 (hp8.get _) (by decide),Jh]
 show Qp (m+1+q*23) (.c1 168 0 (up (List.replicate 25 0)) (up (Ae s f)))=_
 refine (so q 0 (m+1) (List.replicate 25 0) (by omega) UA3).1.trans ?_
 have hfin:Oa (WAN (Ae s f)) q 0 (List.replicate 25 0)=XAN s f:=by simp_all [XAN]
 have hok:Xf (XAN s f):=HAl (fun _ _ h=>VA3 hbuf h) _ _ _ UA3
 rw [hfin,Qp]
 simp only [UAA,mk]
 rw [PY (by simp_all [Ia]),UBI hok];rfl
theorem VBI {s:ByteArray} (h:s.size≤2000):RAJ s=some ⟨sd s,0⟩:=by
 have e:PAS s 168 31=some (YAN s 31):=CBj (f:=31) h (by decide)
 rw [RAJ,EAs,e];rfl
theorem DBj {s:ByteArray} (h:s.size=200):QAS s=some (BAG s):=by
 have hl:=SBF (U8 s)
 rw [QAS,FAs,mk,PY (by simp_all),RBI (n:=25) h (by omega),Option.bind_some,TBI hl,Option.bind_some,UBI (NA3 hl)];rfl
theorem WBI {S:ByteArray} {p n:Nat} {x:SStream} (hS:S.size=200) (h:Gm S p x) (hn:n≤4000):∃ x',IAE x (n:Int)=some (x',ofBytes (up (Xb S p n)))∧Gm S (p+n) x':=by
 have key:∀ (r m:Nat) (x:SStream) (v:SStream) (o:List Nat),n - o.length=r→r<m→o.length≤n→Gm S (p+o.length) x→∃ x',SAJ m (.c0 (n:Int) x v (up o))=some (x',ofBytes (up (o++Xb S (p+o.length) (n - o.length))))∧Gm S (p+n) x':=by
  intro r
  induction r using Nat.strongRecOn with
  | ind r ih=>
  intro m x v o hr hm ho hx
  obtain ⟨m,rfl⟩:∃ m',m=m'+1:=⟨m - 1,by omega⟩
  rw [SAJ]
  simp only [HAs,mk]
  by_cases hlt:o.length<n
  ·have en:w64 ((n:Int) - ((up o).length:Int))=((n - o.length:Nat):Int):=by
    grind [Ia,wn]
   rw [TB (by simp_all [Ia])]
   have go:∀ (q a k:Nat),168*q+a=p+o.length→a+k≤168→0<k→k≤n - o.length→∃ x',SAJ m (.c0 (n:Int) ⟨Ah S q,((a+k:Nat):Int)⟩ v (up o++bytesOf ((Ah S q).extract a (a+k))))=some (x',ofBytes (up (o++Xb S (p+o.length) (n - o.length))))∧Gm S (p+n) x':=by
    intro q a k h1 h2 h3 h4
    rw [CAG,chunk hS h2,show up o++up (Xb S (168*q+a) k)=up (o++Xb S (168*q+a) k) by simp [up],h1]
    have hl:(o++Xb S (p+o.length) k).length=o.length+k:=by simp [IAl]
    obtain ⟨x',e1,e2⟩:=ih (n - (o.length+k)) (by omega) m ⟨Ah S q,((a+k:Nat):Int)⟩ v (o++Xb S (p+o.length) k) (by rw [hl]) (by omega) (by omega) ⟨q,a+k,rfl,by omega,h2⟩
    refine ⟨x',?_,e2⟩
    rw [e1,hl,List.append_assoc,←Nat.add_assoc,ZBF,show k+(n - (o.length+k))=n - o.length by omega]
   obtain ⟨q,a,rfl,ha,ha2⟩:=hx
   have hz:=GAG hS q
   have hz2:=GAG hS (q+1)
   have big:∀ (T:ByteArray) (i j:Nat),T.size=200→decide (((up o).length+(bytesOf (T.extract i j)).length)*1≤140737488355328)=true∧decide ((T.extract i j).size≤9223372036854775807)=true:=fun T i j hT=>by
    grind [ByteArray.size_extract,CAG,Ia,EAG]
   dsimp only
   by_cases h168:a=168
   ·subst h168
    rw [TB (by rfl),DBj hz,Option.bind_some,show BAG (Ah S q)=Ah S (q+1) from rfl,en,show w64 ((168:Int) - (0:Int))=168 by decide]
    by_cases hk:n - o.length<168
    ·have e0:w64 (0+((n - o.length:Nat):Int))=((0+(n - o.length):Nat):Int):=by grind [wn]
     obtain ⟨b1,b2⟩:=big (Ah S (q+1)) 0 (0+(n - o.length)) hz2
     rw [TB (by grind),e0,show (0:Int).toNat=0 from rfl,Int.toNat_natCast,TB (by grind),b2,cond_true,b1,cond_true]
     exact go (q+1) 0 (n - o.length) (by omega) (by omega) (by omega) (Nat.le_refl _)
    ·obtain ⟨b1,b2⟩:=big (Ah S (q+1)) 0 (0+168) hz2
     rw [PY (by grind),show w64 (0+168)=((0+168:Nat):Int) by decide,show (0:Int).toNat=0 from rfl,Int.toNat_natCast,TB (by rw [Bool.and_eq_true,Bool.and_eq_true,decide_eq_true_eq,decide_eq_true_eq,decide_eq_true_eq];omega),b2,cond_true,b1,cond_true]
     exact go (q+1) 0 168 (by omega) (by omega) (by omega) (by omega)
   ·have ea:w64 (168 - (a:Int))=((168 - a:Nat):Int):=by grind [wn]
    rw [PY (by grind),en,ea,Int.toNat_natCast]
    by_cases hk:n - o.length<168 - a
    ·have e0:w64 ((a:Int)+((n - o.length:Nat):Int))=((a+(n - o.length):Nat):Int):=wn (n:=a+(n - o.length)) (by omega)
     obtain ⟨b1,b2⟩:=big (Ah S q) a (a+(n - o.length)) hz
     rw [TB (by simp_all),e0,Int.toNat_natCast,TB (by grind),b2,cond_true,b1,cond_true]
     grind
    ·have e0:w64 ((a:Int)+((168 - a:Nat):Int))=((a+(168 - a):Nat):Int):=wn (n:=a+(168 - a)) (by omega)
     obtain ⟨b1,b2⟩:=big (Ah S q) a (a+(168 - a)) hz
     rw [PY (by simp_all),e0,Int.toNat_natCast,TB (by grind),b2,cond_true,b1,cond_true]
     grind
  grind [Ia,Xb]
 obtain ⟨q,a,rfl,ha,ha2⟩:=h
 have h1:=GAG hS q
 have hi1:KZ ((n:Nat):Int) 0 4000=true:=Aa.2 (by omega)
 have hi2:KZ ((a:Nat):Int) 0 168=true:=Aa.2 (by omega)
 rw [IAE,GAs,mk,Rf,Option.bind_some,hi1,Bool.not_true,cond_false,PY (by simp_all),Rf,Option.bind_some,hi2,Bool.not_true,cond_false]
 obtain ⟨x',e1,e2⟩:=key n gas ⟨Ah S q,(a:Int)⟩ ⟨⟨#[]⟩,0⟩ [] (by rfl) (gas_lt (by omega)) (Nat.zero_le _) ⟨q,a,rfl,ha,ha2⟩
 exact ⟨x',e1,e2⟩
theorem BAm {seed:ByteArray} {i j:Nat} (h:seed.size≤1000) (hi:i<256) (hj:j<256):V6 seed (i:Int) (j:Int)=some (up (Ef seed i j)):=by
 have h1:Ij (i:Int)=some (Yf i):=Zp (by omega) (by omega)
 have h2:Ij (j:Int)=some (Yf j):=Zp (by omega) (by omega)
 have hz:∀ n,(Yf n).size=1:=fun n=>by rfl
 have hz1:=hz i
 have hz2:=hz j
 have hsz:((seed++Yf i)++Yf j).size=seed.size+2:=by simp_all
 rw [V6,IAs,mk,h1,Option.bind_some,TB (by grind),h2,Option.bind_some,TB (by grind),VBI (by omega),Option.bind_some,Ef]
 generalize hS:sd ((seed++Yf i)++Yf j)=S
 have hSz:S.size=200:=by grind [JAl]
 have pad:∀ (M:Nat) (o:List Nat),o.length≤256→Hz (M+257) (.c1 (up o))=some (up (Lh o)):=by
  intro M o ho
  obtain ⟨n,hn⟩:∃ n,n=256 - o.length:=⟨_,rfl⟩
  have s:=Tc (Lp:=Hz) (st:=fun _ l=>.c1 (up l)) (f:=fun _ l=>l++[0]) (P:=fun i l=>l.length=o.length+i) (n:=n) 1 (fun m i l hi hl=>by
   refine ⟨?_,by grind⟩
   have h1:(up l).length<256:=by grind [Ia]
   show (bif decide (((up l).length:Int)<256) then (bif decide (((up l).length+1)*8≤140737488355328) then Hz m (.c1 (up l++[(0:Int)])) else none) else some (up l))=_
   grind [Wn])
  have hp:Lh o=o++List.replicate n 0:=by rw [Lh,hn]
  have hpl:(up (Lh o)).length=256:=by simp_all [Ia]
  rw [show M+257=(M+o.length+1)+n*1 by omega]
  refine (s n 0 (M+o.length+1) o (by omega) rfl).1.trans ?_
  rw [VAN (fun _=>0),List.map_const',List.length_range',←hp]
  show (bif decide (((up (Lh o)).length:Int)<256) then (bif decide (((up (Lh o)).length+1)*8≤140737488355328) then Hz (M+o.length) (.c1 (up (Lh o)++[(0:Int)])) else none) else some (up (Lh o)))=_
  simp_all
 have key:∀ (r k:Nat) (m:Nat) (x:SStream) (buf:ByteArray) (o:List Nat),k+r=4000→UQ o→(if k % 56=0 then Gm S (3*k) x else buf=ofBytes (up (Xb S (3*(k - k % 56)) 168))∧Gm S (3*(k - k % 56)+168) x)→Hz (m+r+1+257) (.c0 buf (k:Int) x (up o))=some (up (Lh (NAC S r k o))):=by
  intro r
  induction r with
  | zero=>
   intro k m x buf o hk ho hx
   rw [show m+0+1+257=(m+257)+1 by omega,Hz]
   delta YAe mk
   dsimp only
   rw [PY (by simp_all)]
   exact pad m o ho.1
  | succ r ih=>
   intro k m x buf o hk ho hx
   have w1:w64 ((k:Int)+1)=((k+1:Nat):Int):=wn (n:=k+1) (by omega)
   have em:(k:Int).tmod 56=((k % 56:Nat):Int):=rfl
   have e3:w64 (((k % 56:Nat):Int)*3)=((k % 56*3:Nat):Int):=wn (n:=k % 56*3) (by omega)
   have e4:w64 (((k % 56*3:Nat):Int)+1)=((k % 56*3+1:Nat):Int):=wn (n:=k % 56*3+1) (by omega)
   have e5:w64 (((k % 56*3:Nat):Int)+2)=((k % 56*3+2:Nat):Int):=wn (n:=k % 56*3+2) (by omega)
   have l0:=HAG S (3*k)
   have l1:=HAG S (3*k+1)
   have l2:=HAG S (3*k+2)
   rw [show m+(r+1)+1+257=(m+r+1+257)+1 by omega,Hz,NAC]
   delta YAe mk
   dsimp only
   simp only [w1,em,e3,e4,e5]
   rw [TB (by grind)]
   by_cases hlt:o.length<256
   ·rw [TB (by grind [Ia])]
    by_cases h56:k % 56=0
    ·rw [if_pos h56] at hx
     obtain ⟨x',e,hx'⟩:=WBI (n:=168) hSz hx (by omega)
     have e:IAE x 168=_:=e
     have nx:(if (k+1) % 56=0 then Gm S (3*(k+1)) x' else ofBytes (up (Xb S (3*k) 168))=ofBytes (up (Xb S (3*(k+1 - (k+1) % 56)) 168))∧Gm S (3*(k+1 - (k+1) % 56)+168) x'):=by
      grind
     rw [TB (by simp_all),e,Option.bind_some]
     dsimp only
     have hs3:(ofBytes (up (Xb S (3*k) 168))).size=168:=by rfl
     have t0:bt (ofBytes (up (Xb S (3*k) 168))) ((k % 56*3:Nat):Int)=((strm S (3*k):Nat):Int):=by rw [Nu,V8 S (by omega),show 3*k+k % 56*3=3*k by omega]
     have t1:bt (ofBytes (up (Xb S (3*k) 168))) ((k % 56*3+1:Nat):Int)=((strm S (3*k+1):Nat):Int):=by rw [Nu,V8 S (by omega),show 3*k+(k % 56*3+1)=3*k+1 by omega]
     have t2:bt (ofBytes (up (Xb S (3*k) 168))) ((k % 56*3+2:Nat):Int)=((strm S (3*k+2):Nat):Int):=by rw [Nu,V8 S (by omega),show 3*k+(k % 56*3+2)=3*k+2 by omega]
     have va:w64 (((strm S (3*k):Nat):Int)+w64 (256*((strm S (3*k+1):Nat):Int).tmod 16))=((Ye S k:Nat):Int):=by
      grind [w64_id,Ye]
     have vb:w64 (w64 (((strm S (3*k+1):Nat):Int).tdiv 16)+w64 (16*((strm S (3*k+2):Nat):Int)))=((Rj S k:Nat):Int):=by
      grind [w64_id,Rj]
     rw [t0,t1,t2,wn (n:=strm S (3*k)) (by omega),wn (n:=strm S (3*k+1)) (by omega),wn (n:=strm S (3*k+2)) (by omega),va,vb,TB (by grind),TB (by grind),TB (by grind),TB (by grind),if_pos hlt]
     by_cases ha:Ye S k<3329
     ·have h1:Ou (Ye S k) o=o++[Ye S k]:=if_pos ⟨ha,hlt⟩
      have hl1:(o++[Ye S k]).length=o.length+1:=by simp
      rw [TB (by grind),TB (by grind [Ia]),Wn]
      by_cases hb:Rj S k<3329
      ·rw [TB (by grind)]
       by_cases hl:(o++[Ye S k]).length<256
       ·have h2:Ai S k o=(o++[Ye S k])++[Rj S k]:=by rw [Ai,h1];exact if_pos ⟨hb,hl⟩
        rw [TB (by grind [Ia]),TB (by grind [Ia]),Wn,←h2]
        exact ih (k+1) m x' _ _ (by omega) (V4 ho) nx
       ·have h2:Ai S k o=o++[Ye S k]:=by rw [Ai,h1];exact if_neg (fun h=>hl h.2)
        rw [PY (by grind [Ia]),←h2]
        exact ih (k+1) m x' _ _ (by omega) (V4 ho) nx
      ·have h2:Ai S k o=o++[Ye S k]:=by rw [Ai,h1];exact if_neg (fun h=>hb h.1)
       rw [PY (by grind),←h2]
       exact ih (k+1) m x' _ _ (by omega) (V4 ho) nx
     ·have h1:Ou (Ye S k) o=o:=if_neg (fun h=>ha h.1)
      rw [PY (by grind)]
      by_cases hb:Rj S k<3329
      ·have h2:Ai S k o=o++[Rj S k]:=by rw [Ai,h1];exact if_pos ⟨hb,hlt⟩
       rw [TB (by grind),TB (by grind [Ia]),TB (by grind [Ia]),Wn,←h2]
       exact ih (k+1) m x' _ _ (by omega) (V4 ho) nx
      ·have h2:Ai S k o=o:=by rw [Ai,h1];exact if_neg (fun h=>hb h.1)
       rw [PY (by grind)]
       rw [h2]
       exact ih (k+1) m x' _ _ (by omega) ho nx
    ·rw [if_neg h56] at hx
     obtain ⟨rfl,hx⟩:=hx
     have nx:(if (k+1) % 56=0 then Gm S (3*(k+1)) x else ofBytes (up (Xb S (3*(k - k % 56)) 168))=ofBytes (up (Xb S (3*(k+1 - (k+1) % 56)) 168))∧Gm S (3*(k+1 - (k+1) % 56)+168) x):=by
      grind
     rw [PY (by grind)]
     have hs3:(ofBytes (up (Xb S (3*(k - k % 56)) 168))).size=168:=by rfl
     have t0:bt (ofBytes (up (Xb S (3*(k - k % 56)) 168))) ((k % 56*3:Nat):Int)=((strm S (3*k):Nat):Int):=by rw [Nu,V8 S (by omega),show 3*(k - k % 56)+k % 56*3=3*k by omega]
     have t1:bt (ofBytes (up (Xb S (3*(k - k % 56)) 168))) ((k % 56*3+1:Nat):Int)=((strm S (3*k+1):Nat):Int):=by rw [Nu,V8 S (by omega),show 3*(k - k % 56)+(k % 56*3+1)=3*k+1 by omega]
     have t2:bt (ofBytes (up (Xb S (3*(k - k % 56)) 168))) ((k % 56*3+2:Nat):Int)=((strm S (3*k+2):Nat):Int):=by rw [Nu,V8 S (by omega),show 3*(k - k % 56)+(k % 56*3+2)=3*k+2 by omega]
     have va:w64 (((strm S (3*k):Nat):Int)+w64 (256*((strm S (3*k+1):Nat):Int).tmod 16))=((Ye S k:Nat):Int):=by
      grind [w64_id,Ye]
     have vb:w64 (w64 (((strm S (3*k+1):Nat):Int).tdiv 16)+w64 (16*((strm S (3*k+2):Nat):Int)))=((Rj S k:Nat):Int):=by
      grind [w64_id,Rj]
     rw [t0,t1,t2,wn (n:=strm S (3*k)) (by omega),wn (n:=strm S (3*k+1)) (by omega),wn (n:=strm S (3*k+2)) (by omega),va,vb,TB (by grind),TB (by grind),TB (by grind),TB (by grind),if_pos hlt]
     by_cases ha:Ye S k<3329
     ·have h1:Ou (Ye S k) o=o++[Ye S k]:=if_pos ⟨ha,hlt⟩
      have hl1:(o++[Ye S k]).length=o.length+1:=by simp
      rw [TB (by grind),TB (by grind [Ia]),Wn]
      by_cases hb:Rj S k<3329
      ·rw [TB (by grind)]
       by_cases hl:(o++[Ye S k]).length<256
       ·have h2:Ai S k o=(o++[Ye S k])++[Rj S k]:=by rw [Ai,h1];exact if_pos ⟨hb,hl⟩
        rw [TB (by grind [Ia]),TB (by grind [Ia]),Wn,←h2]
        exact ih (k+1) m x _ _ (by omega) (V4 ho) nx
       ·have h2:Ai S k o=o++[Ye S k]:=by rw [Ai,h1];exact if_neg (fun h=>hl h.2)
        rw [PY (by grind [Ia]),←h2]
        exact ih (k+1) m x _ _ (by omega) (V4 ho) nx
      ·have h2:Ai S k o=o++[Ye S k]:=by rw [Ai,h1];exact if_neg (fun h=>hb h.1)
       rw [PY (by grind),←h2]
       exact ih (k+1) m x _ _ (by omega) (V4 ho) nx
     ·have h1:Ou (Ye S k) o=o:=if_neg (fun h=>ha h.1)
      rw [PY (by grind)]
      by_cases hb:Rj S k<3329
      ·have h2:Ai S k o=o++[Rj S k]:=by rw [Ai,h1];exact if_pos ⟨hb,hlt⟩
       rw [TB (by grind),TB (by grind [Ia]),TB (by grind [Ia]),Wn,←h2]
       exact ih (k+1) m x _ _ (by omega) (V4 ho) nx
      ·have h2:Ai S k o=o:=by rw [Ai,h1];exact if_neg (fun h=>hb h.1)
       rw [PY (by grind)]
       rw [h2]
       exact ih (k+1) m x _ _ (by omega) ho nx
   ·rw [PY (by grind [Ia]),if_neg hlt]
    have hp:=pad (m+r+1) o ho.1
    exact hp
 obtain ⟨m,hm⟩:∃ m,gas=m+4000+1+257:=⟨gas - 4258,by rfl⟩
 rw [hm]
 refine key 4000 0 m ⟨S,0⟩ ⟨#[]⟩ [] (by omega) ⟨Nat.zero_le _,fun _ h=>by cases h⟩ ?_
 grind [KAl]
theorem EBj {rho:ByteArray} (h:rho.size≤1000):UAS rho=some [up (Ef rho 0 0),up (Ef rho 1 0),up (Ef rho 0 1),up (Ef rho 1 1)]:=by
 have u00:V6 rho 0 0=some (up (Ef rho 0 0)):=BAm (i:=0) (j:=0) h (by decide) (by decide)
 have u10:V6 rho 1 0=some (up (Ef rho 1 0)):=BAm (i:=1) (j:=0) h (by decide) (by decide)
 have u01:V6 rho 0 1=some (up (Ef rho 0 1)):=BAm (i:=0) (j:=1) h (by decide) (by decide)
 have u11:V6 rho 1 1=some (up (Ef rho 1 1)):=BAm (i:=1) (j:=1) h (by decide) (by decide)
 have w0:w64 (0+1)=1:=by decide
 have w1:w64 (1+1)=2:=by decide
 obtain ⟨m,hm⟩:∃ m,gas=m+9:=⟨gas - 9,rfl⟩
 simp_all [UAS,JAs,ZAe,KAs,mk]
theorem FBj {s:ByteArray} {n:Nat} (h:s.size≤2000) (hn:n≤4000):TAJ s (n:Int)=some (ofBytes (up (Xb (sd s) 0 n)),true):=by
 obtain ⟨x',e,_⟩:=WBI (n:=n) (JAl s) (KAl s) hn
 rw [TAJ,LAs,mk,Rf,Option.bind_some,Aa.2 (by omega),Bool.not_true,cond_false,VBI h,Option.bind_some,e];rfl
theorem CAm {seed:ByteArray} {n:Nat} (h:seed.size≤1000) (hn:n<256):X6 seed (n:Int)=some (up (Qj seed n)):=by
 have h1:Ij (n:Int)=some (Yf n):=Zp (by omega) (by omega)
 have hz:(Yf n).size=1:=by rfl
 have h2:=FBj (s:=seed++Yf n) (n:=128) (by grind) (by omega)
 have hs:(ofBytes (up (Xb (sd (seed++Yf n)) 0 128))).size=128:=by rfl
 have h2:TAJ (seed++Yf n) 128=_:=h2
 rw [X6,MAs,mk,h1,Option.bind_some,TB (by grind),h2,Option.bind_some]
 dsimp only
 rw [Qj]
 generalize ofBytes (up (Xb (sd (seed++Yf n)) 0 128))=s at hs
 have sl:=Tc (Lp:=UAJ) (st:=fun i o=>.c0 s (i:Int) (up o)) (f:=fun i o=>o++[smV (Zb s (i / 2) / 2 ^ (4*(i % 2)))]) (P:=fun i o=>o.length=i) (n:=256) 1 (fun m i o hi ho=>by
  refine ⟨?_,by simp_all⟩
  have hb:=U8 s (i / 2)
  have w1:w64 ((i:Int)+1)=((i+1:Nat):Int):=wn (n:=i+1) (by omega)
  have e1:w64 ((i:Int).tdiv 2)=((i / 2:Nat):Int):=wn (n:=i / 2) (by omega)
  have e2:(i:Int).tmod 2=((i % 2:Nat):Int):=rfl
  have e3:w64 ((Zb s (i / 2):Nat):Int)=((Zb s (i / 2):Nat):Int):=wn (by omega)
  have val:∀ b:Nat,b<256→(w64 ((w64 ((w64 ((w64 (((b:Nat):Int).tmod 2+(w64 (((b:Nat):Int).tdiv 2)).tmod 2)) - (w64 (((b:Nat):Int).tdiv 4)).tmod 2)) - (w64 (((b:Nat):Int).tdiv 8)).tmod 2))+3329)).tmod 3329=((smV b:Nat):Int):=by
   intro b hb
   have a1:((b:Nat):Int).tmod 2=((b % 2:Nat):Int):=rfl
   have a2:(w64 (((b:Nat):Int).tdiv 2)).tmod 2=((b / 2 % 2:Nat):Int):=by rw [show ((b:Nat):Int).tdiv 2=((b / 2:Nat):Int) from rfl,wn (by omega)];rfl
   have a3:(w64 (((b:Nat):Int).tdiv 4)).tmod 2=((b / 4 % 2:Nat):Int):=by rw [show ((b:Nat):Int).tdiv 4=((b / 4:Nat):Int) from rfl,wn (by omega)];rfl
   have a4:(w64 (((b:Nat):Int).tdiv 8)).tmod 2=((b / 8 % 2:Nat):Int):=by rw [show ((b:Nat):Int).tdiv 8=((b / 8:Nat):Int) from rfl,wn (by omega)];rfl
   rw [a1,a2,a3,a4,w64_id (n:=((b % 2:Nat):Int)+((b / 2 % 2:Nat):Int)) (by omega) (by omega),w64_id (n:=((b % 2:Nat):Int)+((b / 2 % 2:Nat):Int) - ((b / 4 % 2:Nat):Int)) (by omega) (by omega),w64_id (n:=((b % 2:Nat):Int)+((b / 2 % 2:Nat):Int) - ((b / 4 % 2:Nat):Int) - ((b / 8 % 2:Nat):Int)) (by omega) (by omega),w64_id (by omega) (by omega),Int.tmod_eq_emod_of_nonneg (by omega),smV]
   omega
  rw [UAJ]
  simp only [NAs,mk,w1,e1,e2,Nu,e3]
  rw [TB (by grind),cond_in (by omega)]
  by_cases h2:i % 2=1
  ·have e4:w64 (((Zb s (i / 2):Nat):Int).tdiv 16)=((Zb s (i / 2) / 16:Nat):Int):=wn (n:=Zb s (i / 2) / 16) (by omega)
   rw [TB (by simp_all),cond_d (by rw [Ia];omega),e4,val _ (by omega),Wn,h2]
  ·have h0:i % 2=0:=by omega
   rw [PY (by simp_all),cond_d (by rw [Ia];omega),val _ hb,Wn,h0,Nat.mul_zero,Nat.pow_zero,Nat.div_one])
 obtain ⟨m,hm⟩:∃ m,gas=m+1+256*1:=⟨gas - 257,by rfl⟩
 rw [hm]
 refine (sl 256 0 (m+1) [] (by omega) rfl).1.trans ?_
 rw [PAa,UAJ]
 rfl
theorem IAO {l:List Nat} (h:Ya l):Iz (up l)=some true:=by
 have hl:=h.1
 have s:=Tc (Lp:=VAJ) (st:=fun i (_:Unit)=>.c0 (up l) (i:Int)) (f:=fun _ a=>a) (P:=fun _ _=>True) (n:=256) 1 (fun m i _ hi _=>by
  refine ⟨?_,trivial⟩
  have w1:w64 ((i:Int)+1)=((i+1:Nat):Int):=wn (n:=i+1) (by omega)
  have hq:=h.get i
  grind [VAJ,AAf,Int.toNat_natCast,Je,Ia,Rf,Aa])
 obtain ⟨m,hm⟩:∃ m,gas=m+1+256*1:=⟨gas - 257,by rfl⟩
 rw [Iz,OAs,mk,PY (by simp_all [Ia]),hm]
 refine (s 256 0 (m+1) () (by omega) trivial).1.trans ?_
 simp_all [VAJ,AAf,mk,Ia]
theorem XBI {n:Nat} (h:n<128):JAE (n:Int)=some ((t7 n:Nat):Int):=by
 have s:=Tc (Lp:=ZAS) (st:=fun i (o:Nat)=>.c0 ((n / 2 ^ i:Nat):Int) (o:Int) (i:Int)) (f:=fun i o=>2*o+n / 2 ^ i % 2) (P:=fun i o=>o<2 ^ i) (n:=7) 1 (fun m i o hi ho=>by
  have hp:2 ^ (i+1)≤2 ^ 7:=Nat.pow_le_pow_right (by decide) hi
  have hlt:2*o+n / 2 ^ i % 2<2 ^ (i+1):=by omega
  refine ⟨?_,hlt⟩
  have hd:n / 2 ^ i≤n:=Nat.div_le_self _ _
  have w1:w64 ((i:Int)+1)=((i+1:Nat):Int):=wn (n:=i+1) (by omega)
  have e1:w64 (((n / 2 ^ i:Nat):Int).tdiv 2)=((n / 2 ^ (i+1):Nat):Int):=by
   rw [show ((n / 2 ^ i:Nat):Int).tdiv 2=((n / 2 ^ i / 2:Nat):Int) from rfl,Nat.div_div_eq_div_mul,←Nat.pow_succ]
   exact wn (Nat.lt_of_le_of_lt (Nat.div_le_self _ _) (by omega))
  have e2:((n / 2 ^ i:Nat):Int).tmod 2=((n / 2 ^ i % 2:Nat):Int):=rfl
  have hp7:(2:Nat) ^ 7=128:=rfl
  have e3:w64 (2*(o:Int))=((2*o:Nat):Int):=wn (n:=2*o) (by omega)
  have e4:w64 (((2*o:Nat):Int)+((n / 2 ^ i % 2:Nat):Int))=((2*o+n / 2 ^ i % 2:Nat):Int):=wn (n:=2*o+n / 2 ^ i % 2) (by omega)
  grind [ZAS,QAs])
 obtain ⟨m,hm⟩:∃ m,gas=m+1+7*1:=⟨gas - 8,rfl⟩
 have e0:(n:Int).tmod 128=((n / 2 ^ 0:Nat):Int):=by grind
 rw [JAE,PAs,mk,e0,PY (by rfl),hm]
 refine (s 7 0 (m+1) 0 (by omega) (by decide)).1.trans ?_
 rfl
theorem YBI {e:Nat} (he:e<1024):KAE 17 (e:Int)=some ((KAC e:Nat):Int):=by
 have key:∀ (k b e o m:Nat),e<2 ^ k→b<3329→o<3329→e<1024→BAT (m+k+1) (.c0 (b:Int) (e:Int) (o:Int))=some ((pwF k b e o:Nat):Int):=by
  intro k
  induction k with
  | zero=>
   intro b e o m h _ _ _
   obtain rfl:e=0:=by omega
   rfl
  | succ k ih=>
   intro b e o m h hb ho he
   rw [aj m k,BAT,pwF]
   simp only [SAs,mk]
   by_cases h0:e=0
   ·simp_all
   ·have e1:w64 ((e:Int).tdiv 2)=((e / 2:Nat):Int):=wn (n:=e / 2) (by omega)
    have e2:(e:Int).tmod 2=((e % 2:Nat):Int):=rfl
    rw [TB (by grind),e1,e2,IAG hb hb,IAG ho hb,if_neg h0]
    have hk:e / 2<2 ^ k:=by omega
    by_cases h1:e % 2=1
    ·rw [if_pos h1,h1,TB (by rfl)]
     exact ih _ _ _ _ hk (Nat.mod_lt _ (by decide)) (Nat.mod_lt _ (by decide)) (by omega)
    ·rw [if_neg h1,PY (by simp_all)]
     exact ih _ _ _ _ hk (Nat.mod_lt _ (by decide)) ho (by omega)
 obtain ⟨m,hm⟩:∃ m,gas=m+10+1:=⟨gas - 11,rfl⟩
 rw [KAE,RAs,mk,Rf,Option.bind_some,Aa.2 (by omega),Bool.not_true,cond_false,PY (by decide),hm]
 exact key 10 17 e 1 m he (by decide) (by decide) he
theorem GBj {p:List Nat} (h:Ya p):VAA (up p)=some (up (BAO p)):=by
 have inner:∀ (k size start z:Nat) (m:Nat) (o:List Nat),0<size→start+2*size≤256→z<3329→Ya o→Kr (m+size*1) (.c2 (k:Int) (size:Int) (start:Int) (z:Int) (start:Int) (up o))=Kr m (.c2 (k:Int) (size:Int) (start:Int) (z:Int) ((start+size:Nat):Int) (up (Oa (fun j o=>bfQ z size (start+j) o) size 0 o))):=fun k size start z m o hs hst hz ho=>(Tc (Lp:=Kr) (st:=fun j o=>.c2 (k:Int) (size:Int) (start:Int) (z:Int) ((start+j:Nat):Int) (up o)) (f:=fun j o=>bfQ z size (start+j) o) (P:=fun _ o=>Ya o) (n:=size) 1 (fun m j o hj ho=>by
  refine ⟨?_,XA3 ho _ _ _⟩
  have hl:=ho.1
  have h1:=ho.get (start+j)
  have h2:=ho.get (start+j+size)
  have e1:w64 (((start+j:Nat):Int)+1)=((start+(j+1):Nat):Int):=wn (n:=start+(j+1)) (by omega)
  have e2:w64 (((start+j:Nat):Int)+(size:Int))=((start+j+size:Nat):Int):=wn (n:=start+j+size) (by omega)
  have e3:w64 ((start:Int)+(size:Int))=((start+size:Nat):Int):=wn (n:=start+size) (by omega)
  rw [Kr]
  simp only [LAE,mk,e1,e2,e3,Int.toNat_natCast,Je]
  rw [IAG hz h2]
  have ht:z*o.getD (start+j+size) 0 % 3329<3329:=Nat.mod_lt _ (by decide)
  have e4:(w64 (w64 (((o.getD (start+j) 0:Nat):Int) - ((z*o.getD (start+j+size) 0 % 3329:Nat):Int))+3329)).tmod 3329=(((o.getD (start+j) 0+3329 - z*o.getD (start+j+size) 0 % 3329) % 3329:Nat):Int):=by
   grind [w64_id]
  rw [e4,Jh,Je,getD_set_ne (show start+j≠start+j+size by omega)]
  have e5:(w64 (((o.getD (start+j) 0:Nat):Int)+((z*o.getD (start+j+size) 0 % 3329:Nat):Int))).tmod 3329=(((o.getD (start+j) 0+z*o.getD (start+j+size) 0 % 3329) % 3329:Nat):Int):=by
   grind [w64_id]
  rw [e5,Jh,TB (by simp_all),TB (Fa (by omega)),TB (Fa (by omega)),TB (Fa (by omega)),TB (Fa (by grind)),TB (Fa (by grind))];rfl) size 0 m o (by omega) ho).1
 have level:∀ (k0 size c:Nat) (m:Nat) (o:List Nat),1<size→size*c=128→k0=c→Ya o→Kr (m+1+c*(size+2)+1) (.c0 (k0:Int) (size:Int) (up o))=Kr m (.c0 ((k0+c:Nat):Int) ((size / 2:Nat):Int) (up (U4 k0 size c o))):=by
  intro k0 size c m o hs hc hk ho
  have hsc:size≤128∧c≤64:=by
   refine ⟨Nat.le_of_dvd (by decide) ⟨c,hc.symm⟩,?_⟩
   have h2:2*c≤size*c:=Nat.mul_le_mul_right c hs
   omega
  have s:=Tc (Lp:=Kr) (st:=fun i o=>.c1 ((k0+i:Nat):Int) (size:Int) ((2*size*i:Nat):Int) (up o)) (f:=NAl k0 size) (P:=fun _ o=>Ya o) (n:=c) (size+2) (fun m i o hi ho=>by
   refine ⟨?_,YA3 ho _ _ _⟩
   have hb:size*(i+1)≤size*c:=Nat.mul_le_mul_left size hi
   have hb2:2*size*i=2*(size*i):=Nat.mul_assoc 2 size i
   have hb3:2*size*(i+1)=2*size*i+2*size:=Nat.mul_succ _ _
   rw [Nat.mul_succ] at hb
   have e1:w64 (((k0+i:Nat):Int)+1)=((k0+(i+1):Nat):Int):=wn (n:=k0+(i+1)) (by omega)
   have e2:w64 (2*(size:Int))=((2*size:Nat):Int):=wn (n:=2*size) (by omega)
   have e3:w64 (((2*size*i:Nat):Int)+((2*size:Nat):Int))=((2*size*(i+1):Nat):Int):=by grind [wn]
   have e4:w64 (((2*size*i:Nat):Int)+(size:Int))=((2*size*i+size:Nat):Int):=wn (n:=2*size*i+size) (by omega)
   have h7:=MAl (k0+i)
   rw [show m+(size+2)=m+1+size*1+1 by omega,Kr]
   simp only [LAE,mk,e1]
   rw [TB (by grind),XBI (n:=k0+i) (by omega),Option.bind_some,YBI (e:=t7 (k0+i)) (by omega),Option.bind_some]
   refine (inner (k0+(i+1)) size (2*size*i) _ (m+1) o (by omega) (by omega) (LAl _) ho).trans ?_
   rw [Kr]
   simp only [LAE,mk,e2,e3,e4]
   rw [PY (by simp)];rfl)
  rw [Kr]
  simp only [LAE,mk]
  rw [TB (by grind)]
  refine (s c 0 (m+1) o (by omega) ho).1.trans ?_
  have hb2:2*size*c=256:=by grind
  have e5:w64 ((size:Int).tdiv 2)=((size / 2:Nat):Int):=wn (n:=size / 2) (by omega)
  rw [Kr]
  simp only [LAE,mk,e5]
  rw [PY (by simp_all)];rfl
 have hl:=h.1
 obtain ⟨m,hm⟩:∃ m,gas=m+1+1+64*(2+2)+1+1+32*(4+2)+1+1+16*(8+2)+1+1+8*(16+2)+1+1+4*(32+2)+1+1+2*(64+2)+1+1+1*(128+2)+1:=⟨gas - 1165,by rfl⟩
 rw [VAA,TAs,mk,IAO h,Option.bind_some,Bool.not_true,cond_false,TB (by simp_all [Ia]),hm];try rw [List.nil_append]
 have o1:=Nl h 1 128 1
 have o2:=Nl o1 2 64 2
 have o3:=Nl o2 4 32 4
 have o4:=Nl o3 8 16 8
 have o5:=Nl o4 16 8 16
 have o6:=Nl o5 32 4 32
 refine (level 1 128 1 _ p (by omega) rfl rfl h).trans ?_
 refine (level 2 64 2 _ _ (by omega) rfl rfl o1).trans ?_
 refine (level 4 32 4 _ _ (by omega) rfl rfl o2).trans ?_
 refine (level 8 16 8 _ _ (by omega) rfl rfl o3).trans ?_
 refine (level 16 8 16 _ _ (by omega) rfl rfl o4).trans ?_
 refine (level 32 4 32 _ _ (by omega) rfl rfl o5).trans ?_
 refine (level 64 2 64 (m+1) _ (by omega) rfl rfl o6).trans ?_
 rfl
theorem TA4 {n:Nat} (h:n≤12):WAA (n:Int)=some ((2 ^ n:Nat):Int):=by
 have s:=Tc (Lp:=WAJ) (st:=fun i (o:Nat)=>.c0 (n:Int) (o:Int) (i:Int)) (f:=fun _ o=>2*o) (P:=fun i o=>o=2 ^ i) (n:=n) 1 (fun m i o hi ho=>by
  have hp:2 ^ (i+1)≤2 ^ 12:=Nat.pow_le_pow_right (by decide) (by omega)
  grind [wn,WAJ,CAf])
 obtain ⟨m,hm⟩:∃ m,gas=m+1+n*1:=⟨gas - (1+n),by have:=gas_lt (n:=1+n) (by omega);omega⟩
 rw [WAA,UAs,hm]
 obtain ⟨a1,a2⟩:=s n 0 (m+1) 1 (by omega) rfl
 simp_all [WAJ,CAf,mk]
theorem HBj {l:List Nat} (h:Ya l):DAf (up l) 12=some (Jm l,true):=by
 have hl:=h.1
 have t12:WAA 12=some 4096:=TA4 (n:=12) (by omega)
 have t0:WAA 0=some 1:=TA4 (n:=0) (by omega)
 have t4:WAA 4=some 16:=TA4 (n:=4) (by omega)
 have s0:=Tc (Lp:=Vp) (st:=fun i (_:Unit)=>.c0 (up l) 12 (i:Int)) (f:=fun _ a=>a) (P:=fun _ _=>True) (n:=256) 1 (fun m i _ hi _=>by
  refine ⟨?_,trivial⟩
  have w1:w64 ((i:Int)+1)=((i+1:Nat):Int):=wn (n:=i+1) (by omega)
  have hq:=h.get i
  rw [Vp]
  simp only [Nv,mk,w1,Int.toNat_natCast,Je]
  rw [TB (by grind [Ia]),TB (Fa (by omega)),t12,Option.bind_some,Rf,Option.bind_some,show w64 (4096 - 1)=4095 by decide,Aa.2 (by omega),Bool.not_true,cond_false])
 have s1:=Tc (Lp:=Vp) (st:=fun q o=>.c1 (up l) 12 0 0 ((2*q:Nat):Int) (up o)) (f:=fun q o=>o++[Ci l (3*q)]++[Ci l (3*q+1)]++[Ci l (3*q+2)]) (P:=fun q o=>o.length=3*q) (n:=128) 7 (fun m q o hq ho=>by
  refine ⟨?_,by grind⟩
  have hx:=h.get (2*q)
  have hy:=h.get (2*q+1)
  have w1:w64 (((2*q:Nat):Int)+1)=((2*q+1:Nat):Int):=wn (n:=2*q+1) (by omega)
  have w2:w64 (((2*q+1:Nat):Int)+1)=((2*(q+1):Nat):Int):=wn (n:=2*(q+1)) (by omega)
  have p0:=KBG l q
  have p1:=LBG l q
  have p2:=MBG l q
  rw [show m+7=m+1+1+1+1+1+1+1 from rfl,Vp]
  simp only [Nv,mk,Int.toNat_natCast,Je]
  rw [TB (by grind [Ia]),TB (Fa (by omega)),t0,Option.bind_some]
  generalize l.getD (2*q) 0=x at hx p0 p1
  have hl2:∀ k,(up (o++[k])).length=o.length+1:=fun k=>by simp [Ia]
  rw [show w64 ((x:Int)*1)=(x:Int) by grind [wn],show w64 (0+(x:Int))=(x:Int) by grind [wn],show w64 (0+12)=12 by decide,Vp]
  simp only [Nv,mk]
  rw [TB (by rfl),TB (by grind [Ia]),show w64 ((x:Int).tdiv 256)=((x / 256:Nat):Int) from wn (n:=x / 256) (by omega),show w64 (12 - 8)=4 by decide,show w8 ((x:Int).tmod 256)=((Ci l (3*q):Nat):Int) by grind [w8_id],Wn,Vp]
  simp only [Nv,mk,w1]
  rw [PY (by rfl),Vp]
  simp only [Nv,mk,Int.toNat_natCast,Je]
  rw [TB (by grind [Ia]),TB (Fa (by omega)),t4,Option.bind_some]
  generalize l.getD (2*q+1) 0=y at hy p1 p2
  have e16:w64 ((y:Int)*16)=((y*16:Nat):Int):=wn (n:=y*16) (by omega)
  have eh:w64 (((x / 256:Nat):Int)+((y*16:Nat):Int))=((x / 256+y*16:Nat):Int):=wn (n:=x / 256+y*16) (by omega)
  have d1:(x / 256+y*16) % 256=Ci l (3*q+1):=by omega
  have d2:(x / 256+y*16) / 256=Ci l (3*q+2):=by omega
  have hp2:Ci l (3*q+2)<256:=by omega
  rw [e16,eh,show w64 (4+12)=16 by decide,Vp]
  simp only [Nv,mk]
  rw [TB (by rfl),TB (by grind),show w64 (((x / 256+y*16:Nat):Int).tdiv 256)=((Ci l (3*q+2):Nat):Int) by rw [show ((x / 256+y*16:Nat):Int).tdiv 256=(((x / 256+y*16) / 256:Nat):Int) from rfl,d2];exact wn (by omega),show w64 (16 - 8)=8 by decide,show w8 (((x / 256+y*16:Nat):Int).tmod 256)=((Ci l (3*q+1):Nat):Int) by grind [w8_id],Wn,Vp]
  simp only [Nv,mk]
  rw [TB (by rfl),TB (by grind [Ia]),show w64 (((Ci l (3*q+2):Nat):Int).tdiv 256)=0 by rw [show ((Ci l (3*q+2):Nat):Int).tdiv 256=((Ci l (3*q+2) / 256:Nat):Int) from rfl,Nat.div_eq_of_lt hp2];decide,show w64 (8 - 8)=0 by decide,show w8 (((Ci l (3*q+2):Nat):Int).tmod 256)=((Ci l (3*q+2):Nat):Int) by grind [w8_id],Wn,Vp]
  simp_all [Nv,mk])
 obtain ⟨m,hm⟩:∃ m,gas=(m+1+128*7)+1+256*1:=⟨gas - 1154,by rfl⟩
 rw [DAf,VAs,mk,Rf,Option.bind_some,Aa.2 (by omega),Bool.not_true,cond_false,hm]
 refine (s0 256 0 _ () (by omega) trivial).1.trans ?_
 rw [Vp]
 simp only [Nv,mk]
 rw [PY (by simp_all [Ia])]
 refine (s1 128 0 (m+1) [] (by omega) rfl).1.trans ?_
 rw [NBG (Ci l),show 3*128=384 from rfl,Nat.mul_zero,PAa,Vp]
 simp only [Nv,mk]
 rw [PY (by simp_all [Ia]),PY (by rfl)];rfl
theorem ZBI {l:List Nat} (h:Ya l):MAE (up l)=some (Jm l):=by
 simp_all [MAE,WAs,mk,IAO,HBj]
theorem ABJ {a b:List Nat} (ha:Ya a) (hb:Ya b):GAT (up a) (up b)=some (up (mulL a b)):=by
 have hal:=ha.1
 have hbl:=hb.1
 have s:=Tc (Lp:=XAJ) (st:=fun i o=>.c0 (up a) (up b) (i:Int) (up o)) (f:=fun i o=>o++[Yo a b (2*i),Yo a b (2*i+1)]) (P:=fun i o=>o.length=2*i) (n:=128) 1 (fun m i o hi ho=>by
  refine ⟨?_,by grind⟩
  have h7:=MAl i
  have w1:w64 ((i:Int)+1)=((i+1:Nat):Int):=wn (n:=i+1) (by omega)
  have e1:w64 (2*(i:Int))=((2*i:Nat):Int):=wn (n:=2*i) (by omega)
  have e2:w64 (((2*i:Nat):Int)+1)=((2*i+1:Nat):Int):=wn (n:=2*i+1) (by omega)
  have e3:w64 (2*((t7 i:Nat):Int))=((2*t7 i:Nat):Int):=wn (n:=2*t7 i) (by omega)
  have e4:w64 (((2*t7 i:Nat):Int)+1)=((2*t7 i+1:Nat):Int):=wn (n:=2*t7 i+1) (by omega)
  have g:=LAl (2*t7 i+1)
  have a0:=ha.get (2*i)
  have a1:=ha.get (2*i+1)
  have b0:=hb.get (2*i)
  have b1:=hb.get (2*i+1)
  have p00:=mul_lt a0 b0
  have p11:=mul_lt a1 b1
  have p01:=mul_lt a0 b1
  have p10:=mul_lt a1 b0
  have hm:a.getD (2*i+1) 0*b.getD (2*i+1) 0 % 3329<3329:=Nat.mod_lt _ (by decide)
  have pg:=mul_lt hm g
  rw [XAJ]
  simp only [YAs,mk,w1,e1,e2,Int.toNat_natCast,Je]
  rw [TB (by grind),XBI (by omega),Option.bind_some,e3,e4,YBI (by omega),Option.bind_some,IAG a1 b1,LAC hm g,LAC a0 b0,LAC a0 b1,LAC a1 b0]
  have v1:(w64 (((a.getD (2*i) 0*b.getD (2*i) 0:Nat):Int)+((a.getD (2*i+1) 0*b.getD (2*i+1) 0 % 3329*KAC (2*t7 i+1):Nat):Int))).tmod 3329=((Yo a b (2*i):Nat):Int):=by
   grind [CBG,wn]
  have v2:(w64 (((a.getD (2*i) 0*b.getD (2*i+1) 0:Nat):Int)+((a.getD (2*i+1) 0*b.getD (2*i) 0:Nat):Int))).tmod 3329=((Yo a b (2*i+1):Nat):Int):=by
   grind [DBG,wn]
  grind [up])
 obtain ⟨m,hm⟩:∃ m,gas=m+1+128*1:=⟨gas - 129,by rfl⟩
 rw [GAT,XAs,mk,IAO ha,Option.bind_some,Bool.not_true,cond_false,IAO hb,Option.bind_some,Bool.not_true,cond_false,hm]
 refine (s 128 0 (m+1) [] (by omega) rfl).1.trans ?_
 rw [FBG,show 2*128=256 from rfl,Nat.mul_zero,PAa,XAJ]
 rfl
theorem UA4 {a b:List Nat} (ha:Ya a) (hb:Ya b):XAA (up a) (up b)=some (up (JAG a b)):=by
 have hal:=ha.1
 have hbl:=hb.1
 have s:=Tc (Lp:=YAJ) (st:=fun i o=>.c0 (up a) (up b) (i:Int) (up o)) (f:=fun i o=>o++[(a.getD i 0+b.getD i 0) % 3329]) (P:=fun i o=>o.length=i) (n:=256) 1 (fun m i o hi ho=>by
  refine ⟨?_,by simp_all⟩
  have w1:w64 ((i:Int)+1)=((i+1:Nat):Int):=wn (n:=i+1) (by omega)
  have a0:=ha.get i
  have b0:=hb.get i
  have v:(w64 (((a.getD i 0:Nat):Int)+((b.getD i 0:Nat):Int))).tmod 3329=(((a.getD i 0+b.getD i 0) % 3329:Nat):Int):=by rw [←Int.natCast_add,wn (by omega)];rfl
  rw [YAJ]
  simp only [AAt,mk,w1,Int.toNat_natCast,Je]
  rw [TB (by grind),IAO ha,Option.bind_some,cond_true,IAO hb,Option.bind_some,cond_true,v,TB (Fa (by omega)),TB (Fa (by omega)),TB (by grind [Ia]),Wn])
 obtain ⟨m,hm⟩:∃ m,gas=m+1+256*1:=⟨gas - 257,by rfl⟩
 rw [XAA,ZAs,hm]
 refine (s 256 0 (m+1) [] (by omega) rfl).1.trans ?_
 rw [PAa (fun i=>(a.getD i 0+b.getD i 0) % 3329),YAJ]
 rfl
theorem IBj {a0 a1 b0 b1:List Nat} (ha0:Ya a0) (ha1:Ya a1) (hb0:Ya b0) (hb1:Ya b1):Jz [up a0,up a1] [up b0,up b1]=some (up (QAl a0 a1 b0 b1)):=by
 obtain ⟨m,hm⟩:∃ m,gas=m+1+1+1:=⟨gas - 3,rfl⟩
 rw [Jz,BAt,mk,hm,show (256:Int).toNat=256 from rfl,←Y3,ZAJ]
 simp only [EAf,mk]
 rw [TB (by rfl),TB (by rfl),TB (by rfl),show ([up a0,up a1]:List (List Int)).getD (0:Int).toNat []=up a0 from rfl,show ([up b0,up b1]:List (List Int)).getD (0:Int).toNat []=up b0 from rfl,ABJ ha0 hb0,Option.bind_some,UA4 HBG (OAl _ _),Option.bind_some,show w64 (0+1)=1 by decide,ZAJ]
 simp only [EAf,mk]
 rw [TB (by rfl),TB (by rfl),TB (by rfl),show ([up a0,up a1]:List (List Int)).getD (1:Int).toNat []=up a1 from rfl,show ([up b0,up b1]:List (List Int)).getD (1:Int).toNat []=up b1 from rfl,ABJ ha1 hb1,Option.bind_some,UA4 (PAl _ _) (OAl _ _),Option.bind_some,show w64 (1+1)=2 by decide,ZAJ]
 rfl
theorem BBJ {seed:ByteArray} (h:seed.size=32):LAT seed=some (⟨Ru seed,Ls seed⟩,true):=by
 have z0:(⟨#[]⟩:ByteArray).size=0:=rfl
 have z1:(⟨#[114]⟩:ByteArray).size=1:=rfl
 have z2:(⟨#[115]⟩:ByteArray).size=1:=rfl
 have z3:(⟨#[122]⟩:ByteArray).size=1:=rfl
 have hd:=Ig seed
 have hrs:(Di seed).size=32:=Ig _
 have hss:(Ei seed).size=32:=Ig _
 have hps:=PBG seed
 have hr:Rh (Ob seed++⟨#[114]⟩)=some (Di seed):=Hl (by simp_all)
 have hs:Rh (Ob seed++⟨#[115]⟩)=some (Ei seed):=Hl (by simp_all)
 have hzz:Rh (Ob seed++⟨#[122]⟩)=some (Ob (Ob seed++⟨#[122]⟩)):=Hl (by simp_all)
 have hpp:Rh (Ru seed)=some (Ob (Ru seed)):=Hl (by omega)
 have m0:X6 (Ei seed) 0=some (up (Qj (Ei seed) 0)):=CAm (n:=0) (by omega) (by decide)
 have m1:X6 (Ei seed) 1=some (up (Qj (Ei seed) 1)):=CAm (n:=1) (by omega) (by decide)
 have m2:X6 (Ei seed) 2=some (up (Qj (Ei seed) 2)):=CAm (n:=2) (by omega) (by decide)
 have m3:X6 (Ei seed) 3=some (up (Qj (Ei seed) 3)):=CAm (n:=3) (by omega) (by decide)
 have n0:∀ i,VAA (up (Qj (Ei seed) i))=some (up (pS seed i)):=fun i=>GBj (ZAN _ _)
 have b0:∀ i,MAE (up (pS seed i))=some (Jm (pS seed i)):=fun i=>ZBI (OAC _ _)
 have d0:∀ i,Jz [up (Ef (Di seed) 0 i),up (Ef (Di seed) 1 i)] [up (pS seed 0),up (pS seed 1)]=some (up (KAG seed i)):=fun i=>IBj (RAl _ _ _) (RAl _ _ _) (OAC _ _) (OAC _ _)
 have a0:∀ i,XAA (up (KAG seed i)) (up (pS seed (2+i)))=some (up (pT seed i)):=fun i=>UA4 (GBG _ _ _ _) (OAC _ _)
 have t0:∀ i,MAE (up (pT seed i))=some (Jm (pT seed i)):=fun i=>ZBI (OBG _ _)
 have w0:w64 (0+1)=1:=by decide
 have w1:w64 (1+1)=2:=by decide
 have w2:w64 (2+0)=2:=by decide
 have w3:w64 (2+1)=3:=by decide
 obtain ⟨m,hm⟩:∃ m,gas=m+6:=⟨gas - 6,rfl⟩
 rw [LAT,CAt,mk,PY (by simp_all),Hl (by omega),Option.bind_some,TB (by rfl),hr,Option.bind_some,TB (by rfl),hs,Option.bind_some,EBj (by omega),Option.bind_some,hm]
 rw [Y6];simp only [YAA,mk]
 rw [TB (by rfl),m0,Option.bind_some,n0,Option.bind_some,TB (by rfl),b0,Option.bind_some,TB (by rfl),w0]
 rw [Y6];simp only [YAA,mk]
 rw [TB (by rfl),m1,Option.bind_some,n0,Option.bind_some,TB (by rfl),b0,Option.bind_some,TB (by simp_all [Qu]),w1]
 rw [Y6];simp only [YAA,mk]
 rw [PY (by rfl)]
 rw [Y6];simp only [YAA,mk]
 rw [TB (by rfl),TB (by rfl)]
 show (Jz [up (Ef (Di seed) 0 0),up (Ef (Di seed) 1 0)] [up (pS seed 0),up (pS seed 1)]).bind _=_
 rw [d0,Option.bind_some,w2,m2,Option.bind_some,n0,Option.bind_some,a0 0,Option.bind_some,t0,Option.bind_some,TB (by rfl),w0]
 rw [Y6];simp only [YAA,mk]
 rw [TB (by rfl),TB (by rfl)]
 show (Jz [up (Ef (Di seed) 0 1),up (Ef (Di seed) 1 1)] [up (pS seed 0),up (pS seed 1)]).bind _=_
 rw [d0,Option.bind_some,w3,m3,Option.bind_some,n0,Option.bind_some,a0 1,Option.bind_some,t0,Option.bind_some,TB (by simp_all [Qu]),w1]
 rw [Y6];simp only [YAA,mk]
 rw [PY (by rfl),TB (by simp_all [Qu])]
 rw [show ((⟨#[]⟩:ByteArray)++Jm (pT seed 0)++Jm (pT seed 1))++Di seed=Ru seed from rfl,TB (by simp_all [Qu]),hpp,Option.bind_some,TB (by simp_all [Ig,Qu]),TB (by rfl),hzz,Option.bind_some,TB (by simp_all [Ig,Qu])]
 rfl
theorem CBJ {s t:ByteArray} (h:t.size≠768):AAK s t=some (⟨#[]⟩,false):=by
 rw [AAK,NAt,mk,MAt,LAt,mk,KAt,IAt,mk,show ((t.size:Int) != 768)=true from bne_iff_ne.2 (by omega)]
 simp
theorem JBj (x:SThing) (h f:Bool):FAf x h f=some (X3 x h f):=by
 rw [FAf,OAt,mk,MAZ,Option.bind_some,X3]
 cases Za x <;> cases x.fHidden <;> cases x.fFixed <;> cases h <;> cases f <;> rfl
theorem KBj {s:ByteArray} (hs:s.size≤1000):GAf s=some (U3 (s++⟨#[116]⟩)):=by
 have z:(⟨#[116]⟩:ByteArray).size=1:=rfl
 rw [GAf,PAt,mk,TB (by grind),OBI (by grind)];rfl
theorem LBj (x:SThing):HAf x=some (QAa x):=by
 rw [HAf,QAt,mk,MAZ,Option.bind_some,QAa]
 grind [BBJ,CAO,KBj]
theorem MBj {tk:ByteArray→ByteArray×Bool} {b:SBox} {c:SCall} {x:SThing} (h:PB b) (hc:c.fText.size≤1000) (hx:Ic b.fBook.fThings x.fId=some x) (htk:c.fOp=12→∀ v:ByteArray,v.size=32→AAK (Ls v) c.fText=some (tk (Ls v))):IAf b c x=some (MAG tk b c x):=by
 have hk:(Vk b).size≤900000000:=by simp [Vk,Ig]
 rw [IAf,RAt,mk,MAG]
 simp only [OBi,OAZ,EA4 h.key,FA4 hk,JBj,LBj,Option.bind_some]
 cases c.fOp == 6
 ·cases c.fOp == 5
  ·cases c.fOp == 10
   ·cases h12:c.fOp == 12
    ·cases c.fOp == 8
     ·cases c.fOp == 7
      ·cases c.fOp == 9 <;> rfl
      ·rfl
     ·rw [cond_true,cond_true]
      cases (X3 x c.fHidden c.fFixed).2 <;> rfl
    ·rw [cond_true,cond_true]
     cases hm:Bj x 4
     ·rfl
     ·obtain ⟨h1,h2⟩:=TBG hm
      have hv:=CAO h1 (.inl h2)
      rw [BBJ hv,Option.bind_some]
      dsimp only
      rw [htk (beq_iff_eq.1 h12) _ hv,Option.bind_some]
      simp only [cond_true,cond_false]
      cases (tk (Ls x.fValue)).2 <;> rfl
   ·rw [cond_true,cond_true]
    cases Bj x 2 <;> rfl
  ·rw [cond_true,cond_true]
   cases hm:Bj x 3
   ·rfl
   simp_all [XBi]
 ·rw [cond_true,cond_true]
  cases Bj x 1 <;> rfl
theorem DBJ {tk:ByteArray→ByteArray×Bool} {b:SBox} {c:SCall} (h:PB b) (hc:Gq c=true) (htk:c.fOp=12→∀ v:ByteArray,v.size=32→AAK (Ls v) c.fText=some (tk (Ls v))):Ov b c=some (Zf tk b c):=by
 have hs:=h.ses
 have ht:=h.things
 have ho:=h.opn
 have hl:=h.last
 have hz:=TBE hc
 have h5:=(Vh.1 h.Jl).2.2.1
 have hd:=RBG (b.fBook.fLast+1)
 have h32:(⟨#[32]⟩:ByteArray).size=1:=rfl
 rw [Ov,SAt,mk,Zf,JBi (by omega),w64_id (n:=b.fOpened+1) (by omega) (by omega),RA4 (n:=b.fOpened+1) (by omega),show decide ((b.fSessions.length:Int)≥3)=((b.fSessions.length:Int) == 3) by grind,show decide (b.fOpened≥1000)=(b.fOpened == 1000) by grind]
 cases c.fOp == 1
 ·rw [cond_false,cond_false,Option.bind_some]
  by_cases ha:Gs b c.fSession<0
  ·rw [decide_eq_true ha];rfl
  ·rw [decide_eq_false ha,cond_false,cond_false]
   have hlt:Gs b c.fSession<(b.fSessions.length:Int):=by
    rw [Gs] at ha ⊢
    cases hp:Y2 b.fSessions c.fSession 0 with
    | none=>simp_all
    | some j=>have:=(SBE hp).2;simp_all
   cases c.fOp == 13
   ·rw [cond_false,cond_false]
    cases c.fOp == 2
    ·rw [cond_false,cond_false,cond_in (by omega)]
     cases (b.fSessions.getD (Gs b c.fSession).toNat ⟨0,false⟩).fIn
     ·rfl
     ·rw [Bool.not_true,cond_false,cond_false]
      cases c.fOp == 3
      ·rw [cond_false,cond_false]
       cases c.fOp == 4
       ·rw [cond_false,cond_false]
        cases c.fOp == 11
        ·rw [cond_false,cond_false,XAM (by omega),Option.bind_some]
         cases hx:Ic b.fBook.fThings c.fThing with
         | none=>rfl
         | some x=>
          dsimp only
          rw [Bool.not_true,cond_false,MBj h hz (by rw [(X8 hx).1];exact hx) htk];rfl
        simp_all [NBi]
       grind [UAl,SAl,w64_id,RA4,YBd,GBI]
      ·rw [cond_true,cond_true,Hl (by omega)]
       cases decide ((c.fText.size:Int) > 20) <;> rfl
    grind [KBi]
   ·rfl
 ·rw [cond_true,cond_true]
  cases (b.fSessions.length:Int) == 3 <;> cases b.fOpened == 1000 <;> rfl
theorem NBj {F:ByteArray} {n:Int} {z:List Int} {v out:List SFile} {m:Nat}:OAT (m+1) (.c0 z 1 (dk F n) v out)=some (⟨out⟩,true):=rfl
theorem OBj {d e c:SDisk} {T:ByteArray} {z:List Int} (hT:T.size≤20000) (hd:d.fFiles.length*40≤140737488351232) (ha:Nj d ⟨1,La,T,⟨#[]⟩⟩=(e,true)) (h:QAT e z=some (c,true)):TAT d (J8 T) 1 z=some (c,true):=by
 have e1:Oi d [⟨1,La,T,⟨#[]⟩⟩] 0=(e,1):=by simp_all [Oi]
 rw [TAT,VAt,mk,Rf,Option.bind_some,show KZ 1 0 ((J8 T).length:Int)=true from rfl,Bool.not_true,cond_false,TB (by rfl),show ((J8 T).take (1:Int).toNat).drop 0=[⟨1,La,T,⟨#[]⟩⟩] from rfl,QA1 (l:=[⟨1,La,T,⟨#[]⟩⟩]) hd (show (1:Nat)≤140737488351232 by omega) (fun a ha=>by grind),Option.bind_some,e1]
 simp_all
theorem EBJ {d:SDisk} {n:ByteArray} (h0:d.fFiles.length≤140737488351232):BAK d n=some (Yg d n):=by
 rw [BAK,WAt,mk,PA1 h0,Option.bind_some,Ut,Yg]
 cases h:Uf d.fFiles n 0 with
 | none=>rfl
 | some j=>
  have:=SAZ h
  simp_all [PY]
theorem DAm (f:ByteArray) {a b c:Nat} (h:a≤b) (h2:b≤c) (h3:c≤f.size):bs (f.extract a c)=bs (f.extract a b)++bs (f.extract b c):=by
 rw [Dn,Dn,Dn,List.drop_take,List.drop_take,List.drop_take]
 rw [show (bs f).drop b=((bs f).drop a).drop (b - a) by simp_all]
 rw [show c - a=(b - a)+(c - b) by omega,List.take_add]
theorem PBj {f:ByteArray} (hf:f.size≤140737488351232):WAT f=some (Zr f):=by
 rw [WAT,XAt,mk,Zr]
 by_cases h0:20000<f.size
 ·grind
 ·rw [PY (by grind),PY (by grind)]
  have key:∀ (j a m:Nat) (out:List ByteArray),a≤f.size→f.size<a+j→out.length≤a→VAT (m+j+1) (.c0 f (a:Int) out)=some (out++(Aj j f a).1,((Aj j f a).2:Int)):=by
   intro j
   induction j with
   | zero=>omega
   | succ j ih=>
    intro a m out ha hj ho
    rw [show m+(j+1)+1=(m+j+1)+1 by omega,VAT]
    simp only [YAt,mk,Aj]
    by_cases he:a=f.size
    ·grind [DAN]
    ·rw [TB (by grind),QBC hf ha,Option.bind_some]
     rcases XAZ hf ha with h | ⟨v,h,hv0,hv1,hA⟩
     ·rw [show Xo f a=none by rw [Xo,h];rfl,h]
      rw [List.append_nil];rfl
     ·have hp:=Qv v
      have hsz:=hA.size.resolve_left (by grind)
      have hn:=DAN hf ha
      have hex:bs (f.extract a (a+(SN v).length))=SN v:=by rw [hA.extract (Ey v hv0),YZ (Ey v hv0)]
      rw [h] at hn ⊢
      generalize hq:a+(SN v).length=q at hsz hn hex
      simp only [Bool.not_true,cond_false]
      rw [w64_id (n:=(f.size:Int) - (q:Int)) (by omega) (by omega),w64_id (n:=(f.size:Int) - (q:Int) - 4) (by omega) (by omega),w64_id (n:=(q:Int)+4) (by omega) (by omega),w64_id (n:=(q:Int)+4+v) (by omega) (by omega)]
      by_cases h3:v > (f.size:Int) - (q:Int) - 4
      ·grind
      ·have e2:((q:Int)+4).toNat=q+4:=by omega
       have e3:((q:Int)+4+v).toNat=q+4+v.toNat:=by omega
       have hxs:(f.extract (q+4) (q+4+v.toNat)).size=v.toNat:=by grind [ByteArray.size_extract]
       rw [PY (by simp_all),TB (by grind),e2,e3,Int.toNat_natCast,NA1 (by omega),Option.bind_some,frameT,hxs]
       rcases hn with hn | ⟨v',q',he',_,_,h5,h6,h4,hA',hb,hn⟩
       ·rw [hn,List.append_nil]
        cases hr:KZ ((v.toNat:Nat):Int) 1 9000
        ·rfl
        ·rw [cond_true,PY (by rfl),TB (by simp;omega)]
         rw [TB]
         rw [Bool.not_eq_true',D8,YZ (RAZ (Uh _)),beq_eq_false_iff_ne]
         intro hc
         rw [Ie,bs_len,hxs,show ((v.toNat:Nat):Int)=v by omega,DAm f (a:=a) (b:=q) (by omega) (by omega) (by omega),hex,DAm f (a:=q) (b:=q+4) (by omega) (by omega) (by omega)] at hc
         have hc2:=(List.append_inj (List.append_cancel_left hc) (by simp_all)).1
         grind [Xo]
       ·simp only [Prod.mk.injEq,and_true] at he'
        obtain ⟨rfl,he'⟩:=he'
        have:q=q':=by omega
        subst this
        have hr:KZ ((v.toNat:Nat):Int) 1 9000=true:=by grind [Aa]
        rw [hn,hr,cond_true,PY (by rfl),TB (by simp;omega)]
        rw [PY (by
         rw [Bool.not_eq_false',D8,YZ (RAZ (Uh _)),beq_iff_eq]
         rw [Ie,bs_len,hxs,show ((v.toNat:Nat):Int)=v by omega,DAm f (a:=a) (b:=q) (by omega) (by omega) (by omega),hex,DAm f (a:=q) (b:=q+4) (by omega) (by omega) (by omega),hb])]
        grind
  obtain ⟨m,hm⟩:∃ m,gas=m+(f.size+1)+1:=⟨gas - (f.size+2),by have:=gas_lt (n:=f.size+2) (by omega);omega⟩
  rw [hm,show (0:Int)=((0:Nat):Int) from rfl,key (f.size+1) 0 m [] (by omega) (by omega) (Nat.le_refl _)]
  rfl
theorem FBJ {k file:ByteArray} (hk:k.size≤900000000) (hf:file.size≤140737488351232):DAK k file=some (Jk k file):=by
 obtain ⟨u1,u2,_,_⟩:=JAk (file:=file)
 rw [DAK,ZAt,PBj hf,Option.bind_some,Jk]
 generalize (Zr file).1=l at u1 u2
 have key:∀ (j i m:Nat) (e:Int) (out:List SRec),i+j=l.length→0≤e→e≤30000*i→out.length≤i→CAK (m+j+1) (.c0 k e (i:Int) out l)=some (out++(Ik k ((i:Int)+1) (l.drop i)).1,e+(Ik k ((i:Int)+1) (l.drop i)).2):=by
  intro j
  induction j with
  | zero=>
   grind [CAK,JAf,Ik]
  | succ j ih=>
   intro i m e out h he he2 ho
   have hi:i<l.length:=by omega
   have hz:=u1 _ (List.getElem_mem hi)
   have ew:w64 ((i:Int)+1)=((i+1:Nat):Int):=by grind [w64_id]
   have hoz:=YAZ k l[i] ((i+1:Nat):Int)
   have hfz:=TBB (t:=l[i]) (by omega)
   rw [show m+(j+1)+1=(m+j+1)+1 by omega,CAK]
   simp only [JAf,mk,ew,Int.toNat_natCast,getD_at hi]
   rw [TB (by simp_all),TB (by simp_all),HBI hk (by omega),Option.bind_some,UBb (by omega),Option.bind_some,drop_at hi,Ik,show ((i:Int)+1)=((i+1:Nat):Int) from rfl]
   cases (Jb k ((i+1:Nat):Int) l[i]).2
   ·simp
   ·rw [PY (by rfl),Bool.true_and]
    cases (Oj (Jb k ((i+1:Nat):Int) l[i]).1).2
    ·simp
    ·have h2:=ih (i+1) m (e+((frameT l[i]).1.size:Int)) (out++[(Oj (Jb k ((i+1:Nat):Int) l[i]).1).1]) (by omega) (by omega) (by omega) (by simp_all)
     grind [NA1,w64_id]
 obtain ⟨m,hm⟩:=gm (n:=l.length) (by omega)
 have h0:=key l.length 0 m 0 [] (by omega) (by omega) (by omega) (Nat.le_refl _)
 simp_all
theorem GBJ {l:SLife} {r:SRec} (h:l.fDone.length≤1000000):ZAA l r=some ⟨l.fBox,l.fCodes,l.fReplies,l.fGives,l.fDone++[r]⟩:=by
 rw [ZAA,AAu,mk]
 grind
theorem QBj {b:SBox} (h:b.fDisk.fFiles.length*40≤140737488355328):EAK b=some (SA2 b):=by
 rw [EAK,BAu,mk,TB (by simp_all),LAZ];rfl
theorem RBj {x:ByteArray×Bool×(List SFile)×ByteArray×Int×Unit×Int×ByteArray×Int×Unit×Unit×Int} (h:x.2.2.1.length*40≤140737488355328):FAK x=some ⟨x.1,false,⟨x.2.2.1⟩,Qc,[],[],0⟩:=by
 simp_all [FAK,CAu,mk,LAZ]
theorem SBj {F:ByteArray} {n:Int} (zs:List Int) (h:0≤n∧n≤(F.size:Int)) (hF:F.size≤20000):QAT (dk F n) zs=some (NAG F n zs,true):=by
 obtain ⟨m,hm⟩:∃ m,gas=m+1+1:=⟨gas - 2,rfl⟩
 have h1:((dk F n).fFiles.length:Int)=1:=rfl
 have h3:(([]:List SFile).length+1)*40=40:=rfl
 have e:w64 (0+1)=1:=by rfl
 have hg:(dk F n).fFiles.getD (0:Int).toNat (⟨⟨#[]⟩,⟨#[]⟩,0⟩:SFile)=⟨La,F,n⟩:=rfl
 rw [QAT,TAt,mk,QAj,Option.bind_some,Tv h hF,hm,OAT]
 simp only [UAt,mk,h1,h3,e,hg,Bool.not_true,cond_false,List.nil_append]
 rw [TB (by rfl),TB (by rfl)]
 simp only [NBj]
 cases zs with
 | nil=>
  rw [PY (by rfl)]
  by_cases c:0<n
  ·rw [cond_d c,cond_in (by omega),NAG,show Ns F n []=n from if_pos c];rfl
  ·rw [cond_n c,NAG,show Ns F n []=0 from if_neg c];rfl
 | cons z zs=>
  have hz0:(z::zs).getD (0:Int).toNat 0=z:=rfl
  have hl:(0:Int)<((z::zs).length:Int):=by simp
  rw [cond_d hl,cond_in ⟨Int.le_refl _,hl⟩,hz0]
  by_cases c1:z > (F.size:Int)
  ·rw [cond_d c1,cond_n (by omega),cond_in (by omega),NAG,show Ns F n (z::zs)=(F.size:Int) by grind [Ns]];rfl
  ·rw [cond_n c1]
   by_cases c2:z<n
   ·rw [cond_d c2,cond_in (by omega),NAG,show Ns F n (z::zs)=n by grind [Ns]];rfl
   ·rw [cond_n c2,cond_in (by omega),NAG,show Ns F n (z::zs)=z by grind [Ns]];rfl
theorem TBj {k:ByteArray} {l:List SRec} {L:SLife} {r:SRec} (zs:List Int) (g:Good k l L.fBox) (hl:l.length<50) (hn:r.fNum≤9223372036854775807) (hr:(Xa L.fBox.fBook r).2=true) (z1:L.fCodes.length≤1000) (z2:L.fReplies.length≤1000) (z3:L.fDone.length≤1000) :
  ∃ l' b',GAK L r zs=some ⟨b',L.fCodes++[10],L.fReplies++[⟨#[]⟩],L.fGives,bif decide (l'.length > l.length) then L.fDone++[r] else L.fDone⟩∧Down k l' b'∧(l'=l∨l'=l++[r]):=by
 obtain ⟨F,h1,h2⟩:=g.disk
 have hFs:=Good.fsz g.len.2 h2
 have hF2:F.size=(Ua (tx k 1 l)).length:=by grind [bs_len]
 obtain ⟨T,t1,t2⟩:=PA2 (k:=k) (r:=r) (i:=l.length) (A8 hr).2.1 (by omega)
 have hlen:(l++[r]).length=l.length+1:=by simp
 have hat:(l++[r])[l.length]'(by omega)=r:=by simp
 have hall:Ua (tx k 1 (l++[r]))=Ua (tx k 1 l)++bs T:=by
  have e:=NAk (k:=k) (l:=l++[r]) (i:=l.length) (by omega)
  simp_all [List.take_of_length_le]
 have hfl:=ABg (k:=k) (l:=l++[r]) (by omega)
 have hl1:=congrArg List.length hall
 rw [List.length_append,bs_len] at hl1
 have hz:(F++T).size=F.size+T.size:=ByteArray.size_append
 have hE:bs (F++T)=Ua (tx k 1 (l++[r])):=by simp_all [Ue]
 have hcut:=OBj (d:=dk F F.size) (T:=T) (z:=zs) (by omega) (Nat.le_of_ble_eq_true rfl) (IBD (by omega) (by omega)) (SBj zs (by omega) (by omega))
 obtain ⟨q1,q2⟩:=ZBf (F:=F++T) (n:=F.size) zs (by omega)
 unfold NAG at hcut
 generalize Ns (F++T) F.size zs=kk at hcut q1 q2
 obtain ⟨K,rfl⟩:∃ K:Nat,kk=(K:Int):=⟨kk.toNat,by omega⟩
 rw [Int.toNat_natCast] at hcut
 have hX:bs ((F++T).extract 0 K)=(Ua (tx k 1 (l++[r]))).take K:=by simp_all [Dn]
 have hXs:((F++T).extract 0 K).size=K:=by grind [ByteArray.size_extract]
 generalize (F++T).extract 0 K=X at hcut hX hXs
 have hEl:(Ua (tx k 1 (l++[r]))).length=F.size+T.size:=by omega
 have he2:(Vb Qc (l++[r])).2=true:=by
  rw [UA1,g.book]
  simp_all [Vb]
 have hrb:=EBD (k:=k) (file:=X) (l:=l++[r]) (K:=K) (by omega) (IA2 he2) (by omega) hX
 obtain ⟨w1,w2,w3⟩:=ZA1 (tx k 1 (l++[r])) K
 have w4:=QBc (tx k 1 (l++[r])) l.length K (by simp [FAC]) (by simp_all [BAa])
 have w5:=TBC (tx k 1 (l++[r])) K
 rw [FAC] at w2 w5
 rw [BAa] at w3
 have hl'1:(l++[r]).take (whole (tx k 1 (l++[r])) K)=l∨(l++[r]).take (whole (tx k 1 (l++[r])) K)=l++[r]:=by
  grind [List.take_of_length_le]
 refine ⟨(l++[r]).take (whole (tx k 1 (l++[r])) K),⟨k,false,dk X X.size,Qc,[],[],0⟩,?_,⟨g.ksz,?_,LBC _ he2,⟨X,rfl,by omega,l++[r],K,by omega,he2,by omega,hX,rfl⟩⟩,hl'1⟩
 ·obtain ⟨m,hm⟩:∃ m,gas=m+1:=⟨gas - 1,rfl⟩
  have hfile:Yg (dk X (K:Int)) ⟨#[98,111,111,107]⟩=(X,true):=LBD X _
  rw [GAK,DAu,mk,g.cnt,WBB (by rw [g.key,g.ksz];omega),Option.bind_some,g.key,t1,h1,hcut,Option.bind_some]
  dsimp only
  rw [EBJ (by exact Nat.le_of_ble_eq_true rfl),Option.bind_some,hfile]
  dsimp only
  rw [FBJ (by rw [g.ksz];omega) (by omega),Option.bind_some,hrb]
  dsimp only
  have hd:decide ((((l++[r]).take (whole (tx k 1 (l++[r])) K)).length:Int) > (l.length:Int))=decide (((l++[r]).take (whole (tx k 1 (l++[r])) K)).length > l.length):=by
   simp
  rw [hd,hXs]
  cases decide (((l++[r]).take (whole (tx k 1 (l++[r])) K)).length > l.length)
  ·rw [cond_false,cond_false,hm,ZAT]
   simp only [KAf,mk]
   rw [QBj (by exact Nat.le_of_ble_eq_true rfl),Option.bind_some,HAO (by grind) (by grind)];rfl
  ·rw [cond_true,cond_true,GBJ (by omega),Option.bind_some,hm,ZAT]
   simp only [KAf,mk]
   rw [RBj (by exact Nat.le_of_ble_eq_true rfl),Option.bind_some,HAO (by grind) (by grind)];rfl
 ·have h3:=g.len
  grind
theorem UBj {b:SBox} {t:Int} (h:b.fLives.length≤140737488351232) (ht:b.fBook.fThings.length≤140737488351232):AAB b t=some (Wv b t):=by
 rw [AAB,EAu,mk,XAM ht,Option.bind_some,Wv]
 grind [IBI]
theorem HBJ {b:SBox} (h:BSz b):BAB b=some b:=by
 have h1:=h.d
 have h2:=h.s
 have h3:=h.l
 rw [BAB,FAu,mk,cond_d (by omega),FA1 h.t,Option.bind_some,cond_d (by omega),cond_d (by omega)]
theorem VA4 {α:Type} {p:α→Bool} {l:List α} {i:Nat} (h:i<l.length):(l.take (i+1)).filter p=(l.take i).filter p++(bif p l[i] then [l[i]] else []):=by
 grind [take_at]
theorem EAm {α:Type} {p:α→Bool} {l:List α} {i:Nat}:((l.take i).filter p).length≤l.length:=
 Nat.le_trans (List.length_filter_le _ _) (by grind)
theorem VBj {α:Type} {f:α→α} {l:List α} {i:Nat} {d:α} (h:i<l.length):((l.take i).map f++l.drop i).getD i d=l[i]:=by
 grind
theorem map_set {α:Type} {f:α→α} {l:List α} {i:Nat} (h:i<l.length):((l.take i).map f++l.drop i).set i (f l[i])=(l.take (i+1)).map f++l.drop (i+1):=by
 have hz:((l.take i).map f).length=i:=by grind
 grind [List.set_append_right,drop_at,take_at]
theorem WBj {α:Type} {f:α→α} {l:List α} {i:Nat} (h:i≤l.length):((l.take i).map f++l.drop i).length=l.length:=by
 simp_all
theorem IBJ (id:Int):∀ {ls:List SLive},Xv ls→ls.filter (fun v=>decide (v.fId<id))++ls.filter (fun v=>decide (v.fId > id))=UAa ls id
 | [],_=>rfl
 | v::vs,h=>by
  obtain ⟨hs,h2⟩:=List.pairwise_cons.1 h
  have ih:=IBJ id h2
  rw [UAa] at ih ⊢
  rw [List.filter_cons,List.filter_cons,List.filter_cons]
  rcases Int.lt_trichotomy v.fId id with a | a | a
  ·rw [if_pos (decide_eq_true a),if_neg (by rw [decide_eq_true_eq];omega),if_pos (by rw [bne_iff_ne];omega),List.cons_append,ih]
  ·rw [if_neg (by rw [decide_eq_true_eq];omega),if_neg (by rw [decide_eq_true_eq];omega),if_neg (by rw [bne_iff_ne];exact fun q=>q a),ih]
  ·have e:vs.filter (fun v=>decide (v.fId<id))=[]:=List.filter_eq_nil_iff.2 fun w hw=>by have:=hs w hw;rw [decide_eq_true_eq];omega
   rw [e,List.nil_append] at ih
   rw [if_neg (by rw [decide_eq_true_eq];omega),if_pos (decide_eq_true a),if_pos (by rw [bne_iff_ne];omega),e,List.nil_append,ih]
theorem JBJ {ls:List SLive} {id n:Int} (hl:ls.length≤8) (hV:Xv ls):AAU ls id n=some (bif decide (n≥0) then N8 ls id n else UAa ls id):=by
 have two:∀ (o:List SLive),o.length≤9→∀ m,Kz (m+ls.length+1) (.c1 ls id 0 (o++(ls.take 0).filter (fun v=>decide (v.fId > id))))=some (o++ls.filter fun v=>decide (v.fId > id)):=fun o ho=>loop_at (L:=Kz) (fun i:Nat=>OAE.c1 ls id (i:Int) (o++(ls.take i).filter fun v=>decide (v.fId > id))) ls.length (fun m=>by
  simp [Kz,HAK,mk]) fun i hi m=>by
  have hw:=w_up (i:=i) (by omega)
  have hz:=EAm (p:=fun v:SLive=>decide (v.fId > id)) (l:=ls) (i:=i)
  rw [Kz]
  simp only [HAK,mk,hw,Int.toNat_natCast,getD_at hi]
  grind [VA4]
 rw [AAU,GAu]
 refine loop_run (L:=Kz) (fun i:Nat=>OAE.c0 ls id n (i:Int) ((ls.take i).filter fun v=>decide (v.fId<id))) ls.length (ls.length+1) (by omega) (fun m=>?_) fun i hi m=>?_
 ·have hz:=EAm (p:=fun v:SLive=>decide (v.fId<id)) (l:=ls) (i:=ls.length)
  rw [List.take_length] at hz
  rw [Kz]
  simp only [HAK,mk]
  rw [cond_n (by omega),List.take_length]
  cases decide (n≥0)
  ·have h:=two (ls.filter fun v=>decide (v.fId<id)) (by omega) m
   grind [IBJ]
  ·have h:=two (ls.filter (fun v=>decide (v.fId<id))++[⟨id,n⟩]) (by grind) m
   grind [BBE]
 ·have hw:=w_up (i:=i) (by omega)
  have hz:=EAm (p:=fun v:SLive=>decide (v.fId<id)) (l:=ls) (i:=i)
  rw [Kz]
  simp only [HAK,mk,hw,Int.toNat_natCast,getD_at hi]
  grind [VA4]
theorem KBJ {b:SBox} {c:SCall} {code leaf:Int} (h:BSz b) (hV:Xv b.fLives) (hlf:leaf≤1000):Nz b c code leaf=some (QAC b c code leaf):=by
 have hs:=h.s
 have ht:=h.t
 have ho:=h.o
 rw [Nz,HAu,mk,HBJ h,Option.bind_some,QAC,w64_id (n:=b.fOpened+1) (by omega) (by omega)]
 cases code != 0
 ·rw [cond_false,cond_false]
  cases c.fOp == 1
  ·rw [cond_false,cond_false]
   cases c.fOp == 13
   ·rw [cond_false,cond_false]
    cases c.fOp == 2
    ·rw [cond_false,cond_false]
     cases c.fOp == 5
     ·rw [cond_false,cond_false]
      cases c.fOp == 9
      ·rfl
      ·rw [cond_true,cond_true,JBJ h.l hV];rfl
     ·rw [cond_true,cond_true,XAM (by omega),Option.bind_some,WAl]
      cases Ic b.fBook.fThings c.fThing with
      | none=>rfl
      | some x=>
       dsimp only
       rw [cond_true]
       by_cases g1:leaf≥0
       ·rw [w64_id (by omega) (by omega),JBJ h.l hV,decide_eq_true g1,decide_eq_true (by omega:leaf+1≥0)]
        cases x.fKind == 2 <;> cases decide (leaf<x.fNext) <;> rfl
       simp_all [decide_eq_false]
    ·rw [cond_true,cond_true]
     have key:=loop_run (L:=D7) (r:=some (EAO b (inS b.fSessions c.fSession))) (fun i:Nat=>PAE.c1 (i:Int) c ⟨#[]⟩ false ⟨#[]⟩ 0 0 ⟨#[]⟩ 0 0 b.fKey b.fUp b.fBook.fWord b.fBook.fTries b.fBook.fLast b.fBook.fChain b.fBook.fCount b.fOpened [] [] [] [] b.fDisk.fFiles b.fBook.fThings ((b.fSessions.take i).map (fun s=>⟨s.fId,s.fIn || s.fId == c.fSession⟩)++b.fSessions.drop i) b.fLives) b.fSessions.length 0 (by omega) (fun m=>by
      rw [D7]
      simp only [IAK,mk]
      rw [cond_n (by simp),List.take_length,List.drop_length,List.append_nil];rfl) fun i hi m=>by
      have hw:=w_up (i:=i) (by omega)
      rw [D7]
      simp only [IAK,mk,hw,Int.toNat_natCast,VBj hi,WBj (Nat.le_of_lt hi)]
      grind [map_set]
     exact key
   ·rw [cond_true,cond_true]
    have key:=loop_run (L:=D7) (r:=some (EAO b (delS b.fSessions c.fSession))) (fun i:Nat=>PAE.c0 (i:Int) b c ⟨#[]⟩ false ⟨#[]⟩ 0 0 ⟨#[]⟩ 0 0 b.fKey b.fUp b.fBook.fWord b.fBook.fTries b.fBook.fLast b.fBook.fChain b.fBook.fCount b.fOpened ((b.fSessions.take i).filter fun s=>s.fId != c.fSession) [] [] [] [] b.fDisk.fFiles b.fBook.fThings b.fSessions b.fLives) b.fSessions.length 0 (by omega) (fun m=>by
     rw [D7]
     simp only [IAK,mk]
     rw [cond_n (by omega),List.take_length];rfl) fun i hi m=>by
     have hw:=w_up (i:=i) (by omega)
     have hz:=EAm (p:=fun s:SSession=>s.fId != c.fSession) (l:=b.fSessions) (i:=i)
     rw [D7]
     grind [IAK,Int.toNat_natCast,VA4]
    exact key
  grind
 rfl
theorem XBj {l:SLife} {e:SEvent} {w:Int} (hu:l.fBox.fUp=false) (z1:l.fCodes.length≤1000) (z2:l.fReplies.length≤1000):Oz l w e=some (WBG l 9 (JAN 9)):=by
 rw [Oz,JAK,mk,hu,Bool.not_false,cond_true,HAO (by omega) (by omega)];rfl
theorem YBj {l l':SLife} {e:SEvent} {w code:Int} {s:ByteArray} {r:SRec} (hu:l.fBox.fUp=true) (hn:l.fBox.fBook.fCount<10000) (hp:Ov l.fBox e.fCall=some ([r],code,s)) (hcut:e.fCut=true) (hc:GAK l r e.fLeft=some l'):Oz l w e=some l':=by
 rw [Oz,JAK,mk,hu,Bool.not_true,cond_false,cond_n (by omega),hp,Option.bind_some,hcut,cond_true,TB (by rfl),TB (by rfl),show ([r],code,s).1.getD (0:Int).toNat (⟨0,⟨#[]⟩,0,⟨0,0,false,false,false,false,⟨#[]⟩,0⟩⟩:SRec)=r from rfl,hc];rfl
theorem LBJ {l:SLife} {b b2:SBox} {d:List SRec} {e:SEvent} {w code leaf:Int} {s:ByteArray} {y:List SRec} {n:Int} {m:Nat} (hn:(y.length:Int)≤n) (hc:Nz b e.fCall code leaf=some b2) (z1:l.fCodes.length≤1000) (z2:l.fReplies.length≤1000) (z4:l.fGives.length≤1000) :
  KAK (m+1) (.c0 w code s leaf n b.fKey b.fUp b.fBook.fWord b.fBook.fTries b.fBook.fLast b.fBook.fChain b.fBook.fCount b.fOpened e y b.fDisk.fFiles b.fBook.fThings b.fSessions b.fLives l.fCodes l.fReplies l.fGives d)=some ⟨b2,l.fCodes++[code],l.fReplies++[s],bif e.fCall.fOp == 5 && code == 0 then l.fGives++[⟨e.fCall.fThing,leaf,w⟩] else l.fGives,d⟩:=by
 have ht:∀ G,J6 ⟨b2,l.fCodes,l.fReplies,G,d⟩ code s=some ⟨b2,l.fCodes++[code],l.fReplies++[s],G,d⟩:=fun G=>HAO (l:=⟨b2,l.fCodes,l.fReplies,G,d⟩) (show l.fCodes.length≤1000000 by omega) (show l.fReplies.length≤1000000 by omega)
 rw [KAK]
 simp only [LAf,mk,List.nil_append]
 rw [cond_n (by omega)]
 show (Nz b e.fCall code leaf).bind _=_
 grind
theorem ZBj {l:SLife} {e:SEvent} {w code leaf:Int} {s:ByteArray} {b2:SBox} (hu:l.fBox.fUp=true) (hn:l.fBox.fBook.fCount<10000) (hp:Ov l.fBox e.fCall=some ([],code,s)) (hl:AAB l.fBox e.fCall.fThing=some leaf) (hc:Nz l.fBox e.fCall code leaf=some b2) (z1:l.fCodes.length≤1000) (z2:l.fReplies.length≤1000) (z4:l.fGives.length≤1000) :
  Oz l w e=some ⟨b2,l.fCodes++[code],l.fReplies++[s],bif e.fCall.fOp == 5 && code == 0 then l.fGives++[⟨e.fCall.fThing,leaf,w⟩] else l.fGives,l.fDone⟩:=by
 obtain ⟨m,hm⟩:∃ m,gas=m+1:=⟨gas - 1,rfl⟩
 have key:=LBJ (l:=l) (d:=l.fDone) (w:=w) (s:=s) (y:=[]) (n:=0) (m:=m) (Int.le_refl _) hc z1 z2 z4
 simp_all [Oz,JAK,mk,cond_n]
theorem ABk {l:SLife} {e:SEvent} {w code leaf:Int} {s:ByteArray} {r:SRec} {B:SBook} {D:SDisk} {b2:SBox} (hu:l.fBox.fUp=true) (hn:l.fBox.fBook.fCount<10000) (hp:Ov l.fBox e.fCall=some ([r],code,s)) (hcut:e.fCut=false) (hl:AAB l.fBox e.fCall.fThing=some leaf) (hw:XAD l.fBox.fKey l.fBox.fDisk l.fBox.fBook.fCount r=some D) (hb:Az l.fBox.fBook r=some (B,true)) (hc:Nz ⟨l.fBox.fKey,l.fBox.fUp,D,B,l.fBox.fSessions,l.fBox.fLives,l.fBox.fOpened⟩ e.fCall code leaf=some b2) (z1:l.fCodes.length≤1000) (z2:l.fReplies.length≤1000) (z3:l.fDone.length≤1000) (z4:l.fGives.length≤1000) :
  Oz l w e=some ⟨b2,l.fCodes++[code],l.fReplies++[s],bif e.fCall.fOp == 5 && code == 0 then l.fGives++[⟨e.fCall.fThing,leaf,w⟩] else l.fGives,l.fDone++[r]⟩:=by
 obtain ⟨m,hm⟩:∃ m,gas=m+1+1:=⟨gas - 2,rfl⟩
 have h1:w64 (0+1)=1:=by rfl
 have key:=LBJ (l:=l) (d:=l.fDone++[r]) (w:=w) (s:=s) (y:=[r]) (n:=1) (m:=m) (Int.le_refl _) hc z1 z2 z4
 have hd:ZAA ⟨⟨l.fBox.fKey,l.fBox.fUp,D,B,l.fBox.fSessions,l.fBox.fLives,l.fBox.fOpened⟩,l.fCodes,l.fReplies,l.fGives,l.fDone⟩ r=some ⟨⟨l.fBox.fKey,l.fBox.fUp,D,B,l.fBox.fSessions,l.fBox.fLives,l.fBox.fOpened⟩,l.fCodes,l.fReplies,l.fGives,l.fDone++[r]⟩:=GBJ (by grind)
 simp_all [Oz,JAK,mk,cond_n,KAK,LAf,mk]
theorem MBJ {a b:SBook} (h0:a.fThings.length≤140737488351232):DAU a b=some (Gy a b):=by
 rw [DAU,IAu,mk,Gy]
 by_cases hl:a.fThings.length=b.fThings.length
 ·have key:∀ (j i m:Nat),i+j=a.fThings.length→LAK (m+j+1) (.c0 (i:Int) a b)=some (Zt (a.fThings.drop i) (b.fThings.drop i)):=by
   intro j
   induction j with
   | zero=>
    intro i m h
    obtain rfl:i=a.fThings.length:=by omega
    rw [LAK]
    simp only [MAf,mk]
    rw [PY (by simp),List.drop_length,hl,List.drop_length];rfl
   | succ j ih=>
    intro i m h
    have hi:i<a.fThings.length:=by omega
    have hi2:i<b.fThings.length:=by omega
    have e:w64 ((i:Int)+1)=((i+1:Nat):Int):=by grind [w64_id]
    rw [show m+(j+1)+1=(m+j+1)+1 by omega,LAK]
    simp only [MAf,mk,e,Int.toNat_natCast,getD_at hi,getD_at hi2,OBD,ih (i+1) m (by omega)]
    grind [drop_at,Zt]
  obtain ⟨m,hm⟩:=gm (n:=a.fThings.length) (by omega)
  have hz:=key a.fThings.length 0 m (by omega)
  grind
 grind [PBD]
theorem BBk {b:SBook} {l:List SRec} (hb:b.fThings.length≤2932031007317) (hl:l.length≤140737488351232):OAf b l=some (Vb b l):=by
 have key:∀ (j i m:Nat) (b:SBook),i+j=l.length→b.fThings.length≤2932031007317→MAK (m+j+1) (.c0 l (i:Int) ⟨#[]⟩ 0 0 ⟨#[]⟩ 0 b.fWord b.fTries b.fLast b.fChain b.fCount [] b.fThings)=some (Vb b (l.drop i)):=by
  intro j
  induction j with
  | zero=>
   intro i m b h hb
   obtain rfl:i=l.length:=by omega
   rw [MAK]
   simp only [NAf,mk]
   rw [PY (by simp),List.drop_length];rfl
  | succ j ih=>
   intro i m b h hb
   have hi:i<l.length:=by omega
   have e:w64 ((i:Int)+1)=((i+1:Nat):Int):=by grind [w64_id]
   rw [show m+(j+1)+1=(m+j+1)+1 by omega,MAK]
   simp only [NAf,mk,e,Int.toNat_natCast,getD_at hi]
   rw [TB (by simp_all),TB (by simp_all),KA1 (by grind),Option.bind_some,drop_at hi,Vb]
   cases h2:(Xa b l[i]).2
   ·rfl
   ·have h3:=TA1 h2
    rw [PY (by rfl),cond_true]
    exact ih (i+1) m (Xa b l[i]).1 (by omega) (by omega)
 obtain ⟨m,hm⟩:=gm (n:=l.length) (by omega)
 rw [OAf,JAu,mk,FA1 hb,Option.bind_some,hm]
 exact key l.length 0 m b (by omega) hb
theorem NBJ {k:ByteArray} {d:SDisk} (hk:k.size≤900000000) (hd:d.fFiles.length≤140737488351232) (hf:∀ f ∈ d.fFiles,f.fText.size≤140737488351232):NAK k d=some (Xe k d):=by
 have hfs:(Yg d La).1.size≤140737488351232:=JA2 hf
 obtain ⟨r1,r2⟩:=FBD k (Yg d La).1
 have hl:=GBD k (Yg d La).1
 rw [NAK,KAu,mk,QAj,Option.bind_some,Xe]
 cases Tf d
 ·rfl
 rw [PY (by rfl),show (⟨#[98,111,111,107]⟩:ByteArray)=La from rfl,show (⟨#[98,111,111,107,43]⟩:ByteArray)=nNew from rfl,EBJ hd,Option.bind_some,FBJ hk hfs,Option.bind_some,LAZ,Option.bind_some,BBk (Nat.zero_le _) (by omega),Option.bind_some,PA1 hd]
 cases (Vb Qc (Jk k (Yg d La).1).1).2
 ·rfl
 grind
theorem CBk {b:SBox} (hl:b.fLives.length≤140737488351232) (ht:b.fBook.fThings.length≤140737488351232):GAU b=some (L8 b):=by
 have key:∀ (j i m:Nat),i+j=b.fLives.length→OAK (m+j+1) (.c0 (i:Int) b)=some (Yt b j i):=by
  intro j
  induction j with
  | zero=>
   intro i m hi
   rw [OAK];simp only [PAf,mk]
   rw [PY (by simp_all)];rfl
  | succ j ih=>
   intro i m hi
   have hw:w64 ((i:Int)+1)=((i+1:Nat):Int):=by grind [w64_id]
   have d1:decide ((i:Int)<(b.fLives.length:Int))=true:=decide_eq_true (by omega)
   have d0:decide ((0:Int)≤(i:Int))=true:=decide_eq_true (by omega)
   rw [aj m j,OAK]
   simp only [PAf,mk,XAM ht,Rf,Option.bind_some,d0,d1,Bool.and_self,cond_true,Int.toNat_natCast,hw,ih (i+1) m (by omega),Yt,U2]
   grind [w64_id,Int.toNat_natCast]
 obtain ⟨m,hm⟩:=gm (n:=b.fLives.length) (by omega)
 rw [GAU,LAu,hm]
 exact key b.fLives.length 0 m (Nat.zero_add _)
theorem OBJ {b:SBox} (hd:b.fDisk.fFiles.length≤140737488351232) (hf:∀ f ∈ b.fDisk.fFiles,f.fText.size≤140737488351232) (ht:b.fBook.fThings.length≤140737488351232) (hs:b.fSessions.length≤140737488351232) (hl:b.fLives.length≤140737488351232):IAU b=some (Au b):=by
 rw [IAU,MAu,mk,QAj,Rf,Au]
 simp only [Option.bind_some,bne]
 cases hz:(b.fKey.size:Int) == 32
 ·rfl
 have hk:b.fKey.size≤900000000:=by grind
 obtain ⟨l1,l2⟩:=QA2 b.fKey b.fDisk
 have key:∀ (j i m:Nat),i+j=b.fSessions.length→PAK (m+j+1) (.c0 (i:Int) b)=some (Fq b j i && GAC b):=by
  intro j
  induction j with
  | zero=>
   intro i m hi
   rw [PAK];simp only [QAf,mk]
   rw [PY (by simp_all),GAC]
   simp only [LAZ,NBJ hk hd hf,MBJ ht,MBJ (show (Xe b.fKey b.fDisk).1.fThings.length≤140737488351232 by omega),OAF ht,CBk hl ht,Option.bind_some]
   cases b.fUp
   ·cases (b.fSessions.length:Int) == 0 <;> cases (b.fLives.length:Int) == 0 <;> rfl
   ·cases (Xe b.fKey b.fDisk).2.2 <;> cases ((Xe b.fKey b.fDisk).2.1.length:Int) == 0 <;> cases Jg b.fBook <;> cases Gy (Xe b.fKey b.fDisk).1 b.fBook <;> rfl
  | succ j ih=>
   intro i m hi
   have hw:w64 ((i:Int)+1)=((i+1:Nat):Int):=by grind [w64_id]
   have d1:decide ((i:Int)<(b.fSessions.length:Int))=true:=decide_eq_true (by omega)
   have d0:decide ((0:Int)≤(i:Int))=true:=decide_eq_true (by omega)
   rw [aj m j,PAK]
   simp only [QAf,mk,Rf,Option.bind_some,d0,d1,Bool.and_self,cond_true,Int.toNat_natCast,hw,ih (i+1) m (by omega),Fq,VAF]
   cases KZ (b.fSessions.getD i ⟨0,false⟩).fId 1 b.fOpened
   all_goals grind [w64_id,decide,Int.toNat_natCast]
 obtain ⟨m,hm⟩:=gm (n:=b.fSessions.length) (by omega)
 have h0:=key b.fSessions.length 0 m (Nat.zero_add _)
 grind
theorem PBJ {b:SBox} (hd:b.fDisk.fFiles.length*40≤140737488351232) (hf:∀ f ∈ b.fDisk.fFiles,f.fText.size≤140737488351232) (ht:b.fBook.fThings.length≤140737488351232) (hs:b.fSessions.length≤140737488351232) (hl:b.fLives.length≤140737488351232) (hk:b.fKey.size≤900000000):JAU b=some (XAl b):=by
 obtain ⟨l1,l2⟩:=QA2 b.fKey b.fDisk
 rw [JAU,NAu,mk,XAl]
 simp only [OBJ (b:=b) (by omega) hf ht hs hl,NBJ hk (show b.fDisk.fFiles.length≤_ by omega) hf,QA1 (d:=b.fDisk) (l:=(Xe b.fKey b.fDisk).2.1) hd (by omega) (BBg hf),Option.bind_some]
 cases b.fUp
 ·cases Au b
  ·rfl
  ·cases (Xe b.fKey b.fDisk).2.2
   ·rfl
   ·cases decide ((Oi b.fDisk (Xe b.fKey b.fDisk).2.1 0).2<((Xe b.fKey b.fDisk).2.1.length:Int)) <;> rfl
 ·rfl
theorem DBk {k:ByteArray} {l:List SRec} {b:SBox} (h:Down k l b):∃ b',JAU b=some (b',true)∧Good k l b'∧b'.fSessions=[]∧b'.fLives=[]∧b'.fOpened=0∧b'.fBook=(Vb Qc l).1:=by
 obtain ⟨X,rfl,hXs,l2,K,hl2,he2,hK,hX,hl⟩:=h.box
 have hXK:X.size=K:=by grind [bs_len]
 have hs2:=IA2 he2
 have hm:=MBD (k:=k) (F:=X) (n:=X.size) hl2 hs2 he2 hK hX (by omega) (by omega)
 obtain ⟨w1,w2,w3⟩:=ZA1 (tx k 1 l2) K
 rw [BAa] at w3
 have hbk:Vb Qc l=((Vb Qc l).1,true):=Prod.ext rfl h.book
 have hpre:Ua (tx k 1 l2)=Ua (tx k 1 (l2.take (whole (tx k 1 l2) K)))++Ua (tx k (1+((l2.take (whole (tx k 1 l2) K)).length:Int)) (l2.drop (whole (tx k 1 l2) K))):=by
  grind [SBC,GA2,List.take_append_drop]
 rw [←hl] at hm w3 hpre
 have hok:Au ⟨k,false,dk X X.size,Qc,[],[],0⟩=true:=RBD (b:=⟨k,false,dk X X.size,Qc,[],[],0⟩) h.ksz (Tv (by omega) (by omega))
 have mk:∀ G:ByteArray,bs G=Ua (tx k 1 l)→Good k l ⟨k,true,dk G G.size,(Vb Qc l).1,[],[],0⟩:=fun G hG=>⟨h.ksz,rfl,rfl,⟨G,rfl,hG⟩,h.len,hbk,⟨Nat.zero_le _,rfl⟩,⟨Int.le_refl _,by simp⟩,⟨rfl,Nat.zero_le _⟩⟩
 have hR:=PBJ (b:=⟨k,false,dk X X.size,Qc,[],[],0⟩) (Nat.le_of_ble_eq_true rfl) (fun f hf=>by
  have hf:f ∈ [(⟨La,X,(X.size:Int)⟩:SFile)]:=hf
  grind) (Nat.zero_le _) (Nat.zero_le _) (Nat.zero_le _) (by show k.size≤_;rw [h.ksz];omega)
 rw [hR,XAl,hok]
 dsimp only
 rw [hm]
 dsimp only
 by_cases hc:((Ua (tx k 1 l)).length:Int)=(X.size:Int)
 ·rw [beq_iff_eq.2 hc,cond_true]
  refine ⟨_,rfl,mk X ?_,rfl,rfl,rfl,rfl⟩
  grind [List.take_of_length_le]
 ·rw [beq_eq_false_iff_ne.2 hc,cond_false]
  have hG:bs (X.extract 0 (Ua (tx k 1 l)).length)=Ua (tx k 1 l):=by
   grind [Dn]
  have hGs:(X.extract 0 (Ua (tx k 1 l)).length).size=(Ua (tx k 1 l)).length:=by grind [bs_len]
  generalize X.extract 0 (Ua (tx k 1 l)).length=G at hG hGs
  rw [OBc (by omega) (by omega) (by omega)]
  exact ⟨_,rfl,mk G hG,rfl,rfl,rfl,rfl⟩
structure BX (b:SBox):Prop where
 z:BSz b
 f:∀ f ∈ b.fDisk.fFiles,f.fText.size≤140737488351232
 k:b.fKey.size≤900000000
 n:b.fDisk.fFiles.length*40≤140737488351232
theorem LG.bx {k:ByteArray} {l:List SRec} {L:SLife} (h:LG k l L):BX L.fBox:=by
 rcases h.box with g | d
 ·exact ⟨g.bsz,fun f hf=>by have:=g.small.2 f hf;omega,by rw [g.key,g.ksz];omega,by have:=g.small.1;omega⟩
 ·obtain ⟨h1,h2,h3,h4,h5,h6,h7,h8⟩:=LG.down d
  exact ⟨⟨by have:=h7.1;omega,by rw [h4];exact Nat.zero_le _,by simp_all,by simp_all,by omega⟩,fun f hf=>by have:=h7.2 f hf;omega,by rw [h6,d.ksz];omega,by have:=h7.1;omega⟩
theorem WA4 {k:ByteArray} {l:List SRec} {L:SLife} {e:SEvent} (h:LG k l L) (he:Aw e) (hn:L.fCodes.length<45):∃ l' L',Pz L (L.fCodes.length:Int) e=some L'∧Step k e l L l' L':=by
 obtain ⟨f1,f2,f3⟩:=h.few
 have ho:=h.opn
 have hd:L.fDone.length≤1000:=by rw [h.done];omega
 rw [Pz,OAu,mk]
 cases hr:e.fRise
 ·rw [Bool.not_false,cond_true]
  have one:∀ x:Option SLife,(x.bind fun r=>some r)=x:=fun x=>by simp
  rw [one]
  rcases h.box with g | d
  ·have hq:Ov L.fBox e.fCall=some (Zf Xk L.fBox e.fCall):=DBJ g.pb (he.call hr) fun h v _=>CBJ (he.2 h)
   have hlf:=YBh g.Jl g.liv.1 e.fCall.fThing
   have hcn:=g.cnt
   have hll:=g.len.2
   have hl2:AAB L.fBox e.fCall.fThing=some (Wv L.fBox e.fCall.fThing):=UBj (by have:=g.liv.2;omega) (by have:=g.tng;omega)
   rcases YAl (tk:=Xk) (c:=e.fCall) g with h0 | ⟨r,h1,h2⟩
   ·have hq2:Ov L.fBox e.fCall=some ([],(Zf Xk L.fBox e.fCall).2.1,(Zf Xk L.fBox e.fCall).2.2):=by grind
    refine ⟨_,_,?_,Step.call g hr (.inr h0)⟩
    rw [ZBj g.up (by omega) hq2 hl2 (KBJ g.bsz g.lives.2 (by omega)) (by omega) (by omega) (by omega),RAC,h0,List.append_nil];rfl
   ·have hq2:Ov L.fBox e.fCall=some ([r],(Zf Xk L.fBox e.fCall).2.1,(Zf Xk L.fBox e.fCall).2.2):=by grind
    cases hc:e.fCut
    ·have e0:=((ZBG g (by omega) h2.ent).2 [] (fun v hv=>by cases hv) List.Pairwise.nil).bsz
     have e1:BSz (OAG L.fBox r):=⟨e0.d,e0.t,g.ses.1,g.liv.2,g.opn⟩
     have hE:Az L.fBox.fBook r=some ((Xa L.fBox.fBook r).1,true):=by rw [KA1 (by have:=g.tng;omega),←h2.ent]
     have hcar:Nz (OAG L.fBox r) e.fCall (Zf Xk L.fBox e.fCall).2.1 (Wv L.fBox e.fCall.fThing)=some (RAC L.fBox e.fCall (Zf Xk L.fBox e.fCall)):=by
      rw [RAC,h1];exact KBJ e1 g.lives.2 (by omega)
     refine ⟨_,_,?_,Step.call g hr (.inl hc)⟩
     rw [ABk g.up (by omega) hq2 hc hl2 (IBC (by rw [g.key,g.ksz];omega) (by have:=g.small.1;omega)) hE hcar (by omega) (by omega) (by omega) (by omega),h1];rfl
    ·obtain ⟨l',b',c1,c2,c3⟩:=TBj (r:=r) e.fLeft g (by omega) h2.num h2.ent (by omega) (by omega) hd
     exact ⟨l',_,YBj g.up (by omega) hq2 hc c1,Step.cut g hr r h1 b' l' c2 c3⟩
  ·obtain ⟨h1,h2,h3,h4,h5,h6,h7,h8⟩:=LG.down d
   exact ⟨l,_,XBj h1 (by omega) (by omega),Step.down d hr⟩
 ·have x:=h.bx
  have z:=x.z
  have zt:=z.t
  have zs:=z.s
  have zl:=z.l
  have hR:=PBJ x.n x.f (by omega) (by omega) (by omega) x.k
  rw [Bool.not_true,cond_false,hR,Option.bind_some]
  rcases h.box with g | d
  ·refine ⟨l,_,?_,Step.stay g hr⟩
   rw [XAl,g.up,Bool.true_or,cond_true]
   dsimp only
   rw [Bool.not_false,cond_true,HAO (by omega) (by omega)];rfl
  ·obtain ⟨b',r1,r2,r3,r4,r5,_⟩:=DBk d
   rw [hR] at r1
   injection r1 with r1
   refine ⟨l,_,?_,Step.up d hr b' r2 r3 r4 r5⟩
   rw [r1,Bool.not_true,cond_false,HAO (by grind) (by grind)];rfl
def EBk:SLife:=⟨⟨⟨#[]⟩,false,⟨[]⟩,⟨⟨#[]⟩,0,[],0,⟨#[]⟩,0⟩,[],[],0⟩,[],[],[],[]⟩
theorem QBJ {k w:ByteArray} (hw:w.size≤1000):YAD k w=some (bif (Yr k w).2 then (Cc k w,true) else (EBk,false)):=by
 rw [YAD,TAp,mk,IBa,Option.bind_some]
 cases (Yr k w).2
 ·rfl
 ·rw [Bool.not_true,cond_false,Hl (by omega)];rfl
noncomputable def RAG:List SEvent→Int→SLife→Option SLife
 | [],_,l=>some l
 | e::es,i,l=>(Pz l i e).bind (RAG es (i+1))
theorem FBk {k:ByteArray} {es:List SEvent} {a0:ByteArray} {a1:Bool} {a2:ByteArray} {a3 a4:Int} {a5:ByteArray} {a6 a7:Int} {c0:List SFile} {c1:List SThing} {c2:List SSession} {c3:List SLive} {c4:List Int} {c5:List ByteArray} {c6:List SGiven} {c7:List SRec} (hz:es.length≤40) (he:∀ e ∈ es,Aw e):∀ (j i m:Nat) (r:List SRec) (l:SLife),i+j=es.length→LG k r l→l.fCodes.length=i→
  F7 (m+j+1) (.c1 es (i:Int) a0 a1 a2 a3 a4 a5 a6 a7 l.fBox.fKey l.fBox.fUp l.fBox.fBook.fWord l.fBox.fBook.fTries l.fBox.fBook.fLast l.fBox.fBook.fChain l.fBox.fBook.fCount l.fBox.fOpened c0 c1 c2 c3 c4 c5 c6 c7 l.fBox.fDisk.fFiles l.fBox.fBook.fThings l.fBox.fSessions l.fBox.fLives l.fCodes l.fReplies l.fGives l.fDone)=(RAG (es.drop i) (i:Int) l).bind fun l=>some (l,true):=by
 intro j
 induction j with
 | zero=>
  intro i m r l hi h hc
  rw [F7]
  simp only [RAK,mk]
  rw [cond_n (by omega),List.drop_of_length_le (by omega)]
  show (BAB l.fBox).bind _=_
  rw [HBJ h.bx.z];rfl
 | succ j ih=>
  intro i m r l hi h hc
  have hlt:i<es.length:=by omega
  have hw:=w_up (i:=i) (by omega)
  obtain ⟨r1,l1,s1,s2⟩:=WA4 h (he _ (List.getElem_mem hlt)) (by omega)
  rw [hc] at s1
  obtain ⟨g1,g2⟩:=NA4 h (by omega) s2
  rw [aj,F7,drop_at hlt,RAG,s1]
  simp only [RAK,mk,hw,Int.toNat_natCast,getD_at hlt]
  rw [cond_d (by omega),cond_in (by omega)]
  show (Pz l (i:Int) es[i]).bind _=_
  rw [s1]
  exact ih (i+1) m r1 l1 (by omega) g1 (by omega)
theorem XA4 {k w:ByteArray} (hk:k.size=32) (hw:w.size≤20):LG k [Xh w] (Cc k w):=by
 obtain ⟨s,_,h3,_⟩:=EBg hk hw
 exact ⟨.inl s.good,rfl,⟨Nat.le_refl _,rfl,Nat.le_refl _⟩,by omega⟩
theorem GBk {k w:ByteArray} {es:List SEvent} (hk:k.size=32) (hw:w.size≤20) (hz:es.length≤40) (he:∀ e ∈ es,Aw e):NAU k w es=(RAG es 0 (Cc k w)).bind fun l=>some (l,true):=by
 have hn:(Yr k w).2=true:=(UA2 hk hw).1
 have key:=loop_run (L:=F7) (r:=(RAG es 0 (Cc k w)).bind fun l=>some (l,true)) (fun i:Nat=>QAK.c0 es true (i:Int) ⟨#[]⟩ false ⟨#[]⟩ 0 0 ⟨#[]⟩ 0 0 (Cc k w).fBox.fKey (Cc k w).fBox.fUp (Cc k w).fBox.fBook.fWord (Cc k w).fBox.fBook.fTries (Cc k w).fBox.fBook.fLast (Cc k w).fBox.fBook.fChain (Cc k w).fBox.fBook.fCount (Cc k w).fBox.fOpened [] [] [] [] [] [] [] [] (Cc k w).fBox.fDisk.fFiles (Cc k w).fBox.fBook.fThings (Cc k w).fBox.fSessions (Cc k w).fBox.fLives (Cc k w).fCodes (Cc k w).fReplies (Cc k w).fGives (Cc k w).fDone) es.length (es.length+1) (by omega) (fun m=>by
  rw [F7]
  simp only [RAK,mk]
  rw [cond_n (by omega),Bool.not_true,cond_false]
  exact FBk hz he es.length 0 m [Xh w] (Cc k w) (Nat.zero_add _) (XA4 hk hw) rfl) fun i hi m=>by
  have hw:=w_up (i:=i) (by omega)
  rw [F7]
  simp only [RAK,mk,hw,Int.toNat_natCast,getD_at hi]
  rw [cond_d (by omega),cond_true,cond_d (by omega),cond_in (by omega),YBf,Option.bind_some,(he _ (List.getElem_mem hi)).1]
 rw [NAU,TAu,mk,QBJ (by omega),hn,cond_true,Option.bind_some]
 omega
structure DR (r:SL24Drawn):Prop where
 k:r.fKey.size=32
 w:r.fWord.size≤20
 n:r.fEvents.length≤39
 e:∀ e ∈ r.fEvents,Aw e
theorem HBk {K w:ByteArray} {x1 x2:ByteArray} {x3:List SEvent} {n:Nat} (hK:K.size=32) (hw:w.size≤20) (hn:n≤39):∀ (j i m:Nat) (ci h:Int) (es:List SEvent) (r:List SRec) (l:SLife),i+j=n→0≤ci→es.length=i→(∀ e ∈ es,Aw e)→LG K r l→l.fCodes.length=i→
  Ok (CAB (m+j+1) (.c0 (n:Int) (i:Int) ci h x1 x2 K w l.fBox.fKey l.fBox.fUp l.fBox.fBook.fWord l.fBox.fBook.fTries l.fBox.fBook.fLast l.fBox.fBook.fChain l.fBox.fBook.fCount l.fBox.fOpened x3 es l.fBox.fDisk.fFiles l.fBox.fBook.fThings l.fBox.fSessions l.fBox.fLives l.fCodes l.fReplies l.fGives l.fDone)) fun r=>DR r.1∧Df r.2:=by
 intro j
 induction j with
 | zero=>
  intro i m ci h es r l hi hc hl he g hg
  rw [CAB]
  simp only [RAf,mk]
  rw [cond_n (by omega)]
  exact Ok.ret ⟨⟨hK,hw,by simp_all,he⟩,hc⟩
 | succ j ih=>
  intro i m ci h es r l hi hc hl he g hg
  have hup:=w_up (i:=i) (by omega)
  rw [aj,CAB]
  simp only [RAf,mk,hup]
  rw [cond_d (by omega)]
  have one:∀ (c:SL01Cur) (e:SEvent),Df c→Aw e→Ok ((Pz l (i:Int) e).bind fun r2=>bif decide ((es.length+1)*96≤140737488355328) then CAB (m+j+1) (.c0 (n:Int) ((i+1:Nat):Int) c.fI c.fH x1 x2 K w r2.fBox.fKey r2.fBox.fUp r2.fBox.fBook.fWord r2.fBox.fBook.fTries r2.fBox.fBook.fLast r2.fBox.fBook.fChain r2.fBox.fBook.fCount r2.fBox.fOpened x3 (es++[e]) r2.fBox.fDisk.fFiles r2.fBox.fBook.fThings r2.fBox.fSessions r2.fBox.fLives r2.fCodes r2.fReplies r2.fGives r2.fDone) else none) fun r=>DR r.1∧Df r.2:=by
   intro c e hc he1
   obtain ⟨r1,l1,s3,s2⟩:=WA4 g he1 (by omega)
   obtain ⟨g1,g2⟩:=NA4 g (by omega) s2
   rw [hg] at s3
   rw [s3,Option.bind_some,cond_d (by omega)]
   refine ih (i+1) m _ _ _ r1 l1 (by omega) hc (by simp_all) (fun x hx=>?_) g1 (by omega)
   grind
  refine Ok.bind (IBi (c:=⟨(),ci,h⟩) (l:=l) hc g.db) fun a ha=>?_
  obtain ⟨ev,cu,L⟩:=a
  obtain ⟨a1,a2,a3⟩:=ha
  grind [HBi,FBI]
theorem IBk {c:SL01Cur} (hc:Df c):Ok (SAf c ()) fun r=>DR r.1∧Df r.2:=by
 have hl:codeL.length≤140737488351232:=PC.hl
 have e39:(39:Int)=((39:Nat):Int):=rfl
 have h8:w64 (8+w64 ((codeL.length:Int).tdiv 12))=((8+codeL.length / 12:Nat):Int):=by
  grind [w64_id]
 rw [SAf,PAu,mk,h8]
 refine Ok.bind (Xp hc) fun a ha=>Ok.bind (QBW (by omega) (by omega)) fun K hK=>?_
 have hK2:K.size=32:=by omega
 have hw:(⟨#[119]⟩:ByteArray).size≤20:=by decide
 rw [QBJ (by decide),(UA2 hK2 hw).1,cond_true,Option.bind_some]
 have go:∀ n:Nat,n≤39→Ok (CAB gas (.c0 (n:Int) ((0:Nat):Int) a.2.fI a.2.fH ⟨#[]⟩ ⟨#[]⟩ K ⟨#[119]⟩ (Cc K ⟨#[119]⟩).fBox.fKey (Cc K ⟨#[119]⟩).fBox.fUp (Cc K ⟨#[119]⟩).fBox.fBook.fWord (Cc K ⟨#[119]⟩).fBox.fBook.fTries (Cc K ⟨#[119]⟩).fBox.fBook.fLast (Cc K ⟨#[119]⟩).fBox.fBook.fChain (Cc K ⟨#[119]⟩).fBox.fBook.fCount (Cc K ⟨#[119]⟩).fBox.fOpened [] [] (Cc K ⟨#[119]⟩).fBox.fDisk.fFiles (Cc K ⟨#[119]⟩).fBox.fBook.fThings (Cc K ⟨#[119]⟩).fBox.fSessions (Cc K ⟨#[119]⟩).fBox.fLives (Cc K ⟨#[119]⟩).fCodes (Cc K ⟨#[119]⟩).fReplies (Cc K ⟨#[119]⟩).fGives (Cc K ⟨#[119]⟩).fDone)) fun r=>DR r.1∧Df r.2:=fun n hn=>by
  obtain ⟨m,hm⟩:=gm (n:=n) (by omega)
  rw [hm]
  exact HBk hK2 hw hn n 0 m _ _ [] [Xh ⟨#[119]⟩] _ (Nat.zero_add _) ha.2 rfl (fun e h=>by cases h) (XA4 hK2 hw) rfl
 exact Ok.cond (fun _=>go 39 (Nat.le_refl _)) fun h=>go _ (by grind)
theorem RBJ {k:ByteArray} {P:List SRec→SLife→Prop}:∀ {es:List SEvent} {l:List SRec} {L:SLife},(∀ e ∈ es,Aw e)→(∀ l L l' L' e,e ∈ es→LG k l L→P l L→Step k e l L l' L'→P l' L')→LG k l L→P l L→L.fCodes.length+es.length≤45→
  ∃ l' L',RAG es (L.fCodes.length:Int) L=some L'∧LG k l' L'∧P l' L'∧L'.fCodes.length=L.fCodes.length+es.length
 | [],l,L,_,_,h,hp,_=>⟨l,L,rfl,h,hp,rfl⟩
 | e::es,l,L,he,hs,h,hp,hn=>by
  rw [List.length_cons] at hn
  obtain ⟨l1,L1,s1,s2⟩:=WA4 h (he e (List.mem_cons_self ..)) (by omega)
  obtain ⟨g1,g2⟩:=NA4 h (by omega) s2
  obtain ⟨l2,L2,r1,r2,r3,r4⟩:=RBJ (fun e h=>he e (List.mem_cons_of_mem _ h)) (fun l L l' L' e h=>hs l L l' L' e (List.mem_cons_of_mem _ h)) g1 (hs _ _ _ _ e (List.mem_cons_self ..) h hp s2) (by omega)
  grind [RAG]
theorem JBk {P:List SRec→SLife→Prop} {k w:ByteArray} {es:List SEvent} (hk:k.size=32) (hw:w.size≤20) (hn:es.length≤39) (he:∀ e ∈ es,Aw e) (h0:P [Xh w] (Cc k w)) (hs:∀ l L l' L' e,e ∈ es→LG k l L→P l L→Step k e l L l' L'→P l' L'):∃ l L,NAU k w es=some (L,true)∧LG k l L∧P l L∧L.fCodes.length=es.length:=by
 obtain ⟨l,L,h1,h2,h3,h4⟩:=RBJ he hs (XA4 hk hw) h0 (by show 0+es.length≤45;omega)
 grind [Cc,GBk]
def FAm (b:SBox):Prop:=∃ k l L,LG k l L∧L.fCodes.length≤39∧L.fBox=b
theorem KBk {c:SL01Cur} (hc:Df c):Ok (TAf c ()) fun r=>FAm r.1∧Df r.2:=by
 rw [TAf,UAu,mk]
 refine Ok.bind (IBk hc) fun a ha=>?_
 obtain ⟨l,L,h2,h3,_,h4⟩:=JBk (P:=fun _ _=>True) ha.1.k ha.1.w ha.1.n ha.1.e trivial fun _ _ _ _ _ _ _ _ _=>trivial
 have hn:=ha.1.n
 rw [h2]
 exact Ok.ret ⟨⟨_,l,L,h3,by omega,rfl⟩,ha.2⟩
theorem FAm.db {b:SBox} (h:FAm b):DB b:=by
 obtain ⟨_,_,_,g,_,rfl⟩:=h;exact g.db
theorem LBk:Ok (OAU ()) fun r=>FAm r.1∧Gq r.2=true∧(r.2.fOp=12→r.2.fText.size≠768):=by
 have h4:(⟨#[108,111,110,103]⟩:ByteArray).size=4:=rfl
 rw [OAU,VAu,mk]
 refine Ok.bind PBW fun c hc=>Ok.bind (KBk hc) fun a ha=>Ok.bind (EBI ha.2 ha.1.db) fun d hd=>?_
 have x:=hd.1
 refine Ok.cond (fun _=>Ok.ret ⟨ha.1,QA4 ⟨x.o,x.s,x.t,x.k,fun _=>?_⟩ ?_,fun _=>?_⟩) fun hz=>Ok.ret ⟨ha.1,QA4 x ?_,x.x⟩
 all_goals grind
theorem MBk {k:ByteArray} {l:List SRec} {L:SLife} {c:SCall} (h:LG k l L) (hf:L.fCodes.length≤39) (hc:Gq c=true) (h12:c.fOp=12→c.fText.size≠768):∃ p:PT,V7 L.fBox c=some p∧AAZ L.fBox c=some p∧FAO L.fBox c p∧(L.fBox.fUp=false→p=([],9,JAN 9))∧Au L.fBox=true:=by
 have x:=h.bx
 have z:=x.z
 have zd:=x.n
 have zt:=z.t
 have zs:=z.s
 have zl:=z.l
 have ho:=h.opn
 have hl:=h.few.1
 have hB:=OBJ (b:=L.fBox) (by omega) x.f (by omega) (by omega) (by omega)
 rw [AAZ,TA0,mk,hB,Option.bind_some]
 rcases h.box with g | d
 ·have hcn:=g.cnt
  have hll:=g.len.2
  refine ⟨_,g.plan (by omega) (by omega) hc h12,?_,YAl g,fun q=>(by rw [g.up] at q;cases q),g.ok⟩
  rw [g.ok,Bool.not_true,cond_false,g.up,Bool.not_true,cond_false,QBE,hc,Option.bind_some,Bool.not_true,cond_false,cond_n (by omega),DBJ (tk:=Xk) g.pb hc fun h v _=>CBJ (h12 h)];rfl
 ·obtain ⟨h1,h2,h3,h4,h5,h6,h7,h8⟩:=LG.down d
  refine ⟨_,ZBh d c,?_,.inl rfl,fun _=>rfl,h8⟩
  rw [h8,h1];rfl
theorem NBk {a:List SRec} (h:a.length≤140737488351232):CAZ a a=some true:=by
 have key:∀ (j i m:Nat),i+j=a.length→QAM (m+j+1) (.c0 a a (i:Int))=some true:=by
  intro j
  induction j with
  | zero=>
   simp_all [QAM,DAj,mk]
  | succ j ih=>
   intro i m hi
   have hw:w64 ((i:Int)+1)=((i+1:Nat):Int):=by grind [w64_id]
   rw [aj m j,QAM]
   simp only [DAj,mk,hw,ih (i+1) m (by omega),beq_self_eq_true,Bool.and_self,Bool.not_true,cond_false]
   grind
 obtain ⟨m,hm⟩:=gm (n:=a.length) (by omega)
 rw [CAZ,UA0,bne_self_eq_false,cond_false,hm]
 exact key a.length 0 m (Nat.zero_add _)
theorem law_FnPlans (x0:Unit):laws_FnPlans x0=some true:=by
 rw [laws_FnPlans,VA0,mk,NBW,Option.bind_some]
 cases decide ((codeL.length:Int) > 1048576)
 ·obtain ⟨⟨b,c⟩,hr,⟨k,l,L,g,hn,hb⟩,hc,h12⟩:=LBk
  dsimp only at hb hc h12
  subst hb
  rw [cond_false,hr,Option.bind_some]
  obtain ⟨p,e1,e2,e3,e4,e5⟩:=MBk g hn hc h12
  have x:=g.bx
  have z:=x.z
  have zd:=x.n
  have zt:=z.t
  have zs:=z.s
  have zl:=z.l
  have hB:=CA3 (b:=L.fBox) (by omega) x.f (by omega) (by omega) (by omega)
  have hp:p.1.length≤1∧(∀ r ∈ p.1,r.fNum≤9223372036854775807)∧(Vb L.fBox.fBook p.1).2=true:=by
   rcases e3 with h0 | ⟨r,h1,h2⟩
   ·rw [h0];exact ⟨Nat.zero_le _,fun r h=>(by cases h),rfl⟩
   ·rw [h1]
    exact ⟨Nat.le_refl _,fun q h=>(by rw [List.mem_singleton.1 h];exact h2.num),by rw [Vb,h2.ent];rfl⟩
  dsimp only
  rw [e1,Option.bind_some,e2,Option.bind_some,bne_self_eq_false,cond_false,toList_self,Bool.not_true,cond_false,NBk (by omega),Option.bind_some,Bool.not_true,cond_false,hB,e5,Option.bind_some,Bool.not_true,cond_false,RBE,hc,Option.bind_some,Bool.not_true,cond_false]
  have fin:∀ (m:Nat) (n:Int),(p.1.length:Int)≤n→RAM (m+1) (.c0 p.2.1 n L.fBox.fKey L.fBox.fUp L.fBox.fBook.fWord L.fBox.fBook.fTries L.fBox.fBook.fLast L.fBox.fBook.fChain L.fBox.fBook.fCount L.fBox.fOpened p.1 L.fBox.fDisk.fFiles L.fBox.fBook.fThings L.fBox.fSessions L.fBox.fLives)=some true:=fun m n h=>by
   rw [RAM]
   simp only [EAj,mk]
   rw [cond_n (by omega)]
   show (UAE L.fBox.fBook p.1).bind _=_
   grind [PBE]
  rcases e3 with h0 | ⟨r,h1,h2⟩
  ·grind [gas]
  ·obtain ⟨m,hm⟩:∃ m,gas=m+1+1:=⟨gas - 2,rfl⟩
   have h3:(p.1.length:Int)=1:=by simp_all
   have hk:∀ d,(p.1.getD (0:Int).toNat d)=r:=fun d=>by simp_all
   rw [hm,RAM]
   simp only [EAj,mk,hk,w64_id (n:=0+1) (by omega) (by omega)]
   rw [cond_d (by omega)]
   have f1:=fin m (0+1) (by omega)
   cases hq:p.2.1 != 0
   ·assumption
   ·rw [cond_true,cond_in (by omega),h2.code (bne_iff_ne.1 hq)];exact f1
 ·rfl
end Go.Proofs.YtpjfloaghpgpdaaGreatDoor.G
