/- The plain law of FnReads: whatever the arguments, it answers true. Conditions: what is read is in reach. Part 2 of 2. -/
import Derived.Test.YtjfkbidckphneaaGreatDoorPureFnReadsa
namespace Go.Proofs.YtjfkbidckphneaaGreatDoor.G
open Go Go.Ev
set_option linter.unusedVariables false
set_option linter.unusedSimpArgs false
set_option linter.unusedSectionVars false
variable [PC]
def frs:List ByteArray→List Int
 | []=>[]
 | t::ts=>frameL (bs t)++frs ts
def whole:List ByteArray→Nat→Nat
 | [],_=>0
 | t::ts,K=>if (frameL (bs t)).length≤K then whole ts (K - (frameL (bs t)).length)+1 else 0
theorem frameL_len (l:List Int):(frameL l).length=(varL (l.length:Int)).length+4+l.length:=by
 have h4:(four (sumL l)).length=4:=rfl
 rw [frameL,List.length_append,List.length_append,h4];omega
theorem frs_byt:∀ ts:List ByteArray,Byt (frs ts)
 | []=>fun n hn=>by cases hn
 | t::ts=>fun n hn=>by
  rcases List.mem_append.1 hn with hn | hn
  ·exact frameL_byt (byt_bs t) n hn
  ·exact frs_byt ts n hn
theorem frs_app (ts us:List ByteArray):frs (ts++us)=frs ts++frs us:=by
 induction ts with
 | nil=>rfl
 | cons t ts ih=>rw [List.cons_append,frs,frs,ih,List.append_assoc]
theorem whole_le (ts:List ByteArray):∀ K,whole ts K≤K∧whole ts K≤ts.length∧(frs (ts.take (whole ts K))).length≤K:=by
 induction ts with
 | nil=>intro K;exact ⟨Nat.zero_le _,Nat.zero_le _,Nat.zero_le _⟩
 | cons t ts ih=>
  intro K
  rw [whole]
  split
  ·rename_i h
   obtain ⟨i1,i2,i3⟩:=ih (K - (frameL (bs t)).length)
   have:=frameL_len (bs t)
   rw [List.take_succ_cons,frs,List.length_append,List.length_cons]
   omega
  ·exact ⟨Nat.zero_le _,Nat.zero_le _,Nat.zero_le _⟩
theorem whole_all (ts:List ByteArray):∀ K,(frs ts).length≤K→whole ts K=ts.length:=by
 induction ts with
 | nil=>intro K _;rfl
 | cons t ts ih=>
  intro K h
  rw [frs,List.length_append] at h
  rw [whole,if_pos (by omega),ih _ (by omega),List.length_cons]
theorem next_whole {file l:ByteArray} {a:Nat} (hs:file.size≤140737488351232) (h1:1≤l.size) (h2:l.size≤9000) (hA:At file a (frameL (bs l))):nextF file a=some (l,a+(frameL (bs l)).length):=by
 have hA':At file a (varL (l.size:Int)++(four (sumL (bs l))++bs l)):=by rw [frameL,bs_len] at hA;exact hA
 have e1:=rdVar_is hs (by omega) (by omega) hA'.left
 have hB:=hA'.right
 have hC:=hB.right
 have h4:(four (sumL (bs l))).length=4:=rfl
 have hx4:=hB.left.extract (four_byt (sumL_r (bs l)))
 have hxl:=hC.extract (byt_bs l)
 rw [h4] at hx4 hxl hC
 rw [bs_len,ofBytes_bs] at hxl
 have hz:a+(varL (l.size:Int)).length+4+l.size≤file.size:=by
  rcases hC.size with h | h
  ·have:=congrArg List.length h;rw [bs_len,List.length_nil] at this;omega
  ·rw [bs_len] at h;exact h
 have hlen:=frameL_len (bs l)
 rw [bs_len] at hlen
 rw [nextF,e1,hlen]
 generalize (varL (l.size:Int)).length=n at hx4 hxl hz
 dsimp only
 have t0:((a+n:Nat):Int).toNat=a+n:=Int.toNat_natCast _
 have t1:(((a+n:Nat):Int)+4).toNat=a+n+4:=by omega
 have t2:(((a+n:Nat):Int)+4+(l.size:Int)).toNat=a+n+4+l.size:=by omega
 rw [t0,t1,t2,hx4,hxl,bs_ofBytes (four_byt (sumL_r (bs l))),beq_self_eq_true,inR_iff.2 (show 1≤(l.size:Int)∧(l.size:Int)≤9000 by omega),show decide ((l.size:Int)≤(file.size:Int) - ((a+n:Nat):Int) - 4)=true from decide_eq_true (by omega)]
 show some (l,a+n+4+l.size)=_
 rw [show a+n+4+l.size=a+(n+4+l.size) by omega]
theorem next_part {file l:ByteArray} {a:Nat} {rest:List Int} (hs:file.size≤140737488000000) (ha:a≤file.size) (h2:l.size≤9000) (hr:0<rest.length) (hrb:Byt rest) (hA:(bs file).drop a++rest=frameL (bs l)):nextF file a=none:=by
 rcases nextF_x (file:=file) (a:=a) (by omega) ha with h | ⟨v,q,_,hq,hq2,hv1,hv2,h3,hAv,_,_⟩
 ·exact h
 ·exfalso
  have hl:=frameL_len (bs l)
  rw [bs_len] at hl
  have hv10:=varL_len10 (n:=(l.size:Int)) (by omega)
  have hlen:=congrArg List.length hA
  rw [List.length_append,List.length_drop,bs_len] at hlen
  have hb:bs (file++ofBytes rest)=bs file++rest:=by rw [bs_append,bs_ofBytes hrb]
  have hd:(bs (file++ofBytes rest)).drop a=frameL (bs l):=by rw [hb,List.drop_append_of_le_length (by rw [bs_len];exact ha),hA]
  have hz:(file++ofBytes rest).size=file.size+rest.length:=by rw [ByteArray.size_append,ofBytes_size]
  have e1:=rdVar_is (text:=file++ofBytes rest) (a:=a) (V:=(l.size:Int)) (by omega) (by omega) (by omega) ⟨four (sumL (bs l))++bs l,by rw [hd,frameL,bs_len]⟩
  obtain ⟨x,hx⟩:=hAv
  have e2:=rdVar_is (text:=file++ofBytes rest) (a:=a) (V:=v) (by omega) (by omega) (by omega) ⟨x++rest,by rw [hb,List.drop_append_of_le_length (by rw [bs_len];exact ha),hx,List.append_assoc]⟩
  rw [e1] at e2
  have e3:(l.size:Int)=v:=congrArg Prod.fst e2
  subst e3
  omega
theorem unf_frs {file:ByteArray} (hs:file.size≤140737488000000):∀ (ts:List ByteArray) (K m a:Nat),(∀ t ∈ ts,1≤t.size∧t.size≤9000)→a≤file.size→(bs file).drop a=(frs ts).take K→whole ts K<m→unf m file a=(ts.take (whole ts K),a+(frs (ts.take (whole ts K))).length):=by
 intro ts
 induction ts with
 | nil=>
  intro K m a _ ha hd hm
  obtain ⟨m,rfl⟩:∃ n,m=n+1:=⟨m - 1,by omega⟩
  have hlen:=congrArg List.length hd
  rw [List.length_drop,bs_len,frs,List.take_nil,List.length_nil] at hlen
  rw [unf]
  rcases nextF_x (file:=file) (a:=a) (by omega) ha with h | ⟨v,q,_,hq,_,_,_,h3,_⟩
  ·rw [h];rfl
  ·omega
 | cons t ts ih=>
  intro K m a ht ha hd hm
  obtain ⟨m,rfl⟩:∃ n,m=n+1:=⟨m - 1,by omega⟩
  have ht0:=ht t (List.mem_cons_self ..)
  rw [whole] at hm ⊢
  rw [frs,List.take_append] at hd
  split at hm
  ·rename_i h
   rw [if_pos h]
   rw [List.take_of_length_le h] at hd
   have hA:At file a (frameL (bs t)):=⟨_,hd⟩
   have hz:a+(frameL (bs t)).length≤file.size:=by
    rcases hA.size with h | h
    ·have:=congrArg List.length h;rw [frameL_len,List.length_nil] at this;omega
    ·exact h
   rw [unf,next_whole (by omega) ht0.1 ht0.2 hA]
   have hd2:(bs file).drop (a+(frameL (bs t)).length)=(frs ts).take (K - (frameL (bs t)).length):=by
    rw [←List.drop_drop,hd,List.drop_left]
   dsimp only
   rw [ih _ m _ (fun x hx=>ht x (List.mem_cons_of_mem _ hx)) hz hd2 (by omega),List.take_succ_cons,frs,List.length_append]
   rw [Nat.add_assoc]
  ·rename_i h
   rw [if_neg h]
   rw [show K - (frameL (bs t)).length=0 by omega,List.take_zero,List.append_nil] at hd
   rw [unf,next_part (file:=file) (l:=t) (rest:=(frameL (bs t)).drop K) hs ha ht0.2 (by rw [List.length_drop];omega) (fun n hn=>frameL_byt (byt_bs t) n (List.mem_of_mem_drop hn)) (by rw [hd,List.take_append_drop])]
   rfl
theorem sealL_len (k:List Int) (num:Int) (s:List Int):(sealL k num s).length=s.length+16:=by rw [sealL,List.length_append,xorL_len (by rw [maskL_len];omega),tagL_len]
theorem sealL_byt (k:List Int) (num:Int) (s:List Int):Byt (sealL k num s):=fun x hx=>by
 rcases List.mem_append.1 hx with hx | hx
 ·exact xorL_byt _ _ x hx
 ·exact tagL_byt _ _ _ x hx
theorem lockT_size (k s:ByteArray) (num:Int):(lockT k num s).1.size≤s.size+16:=by
 rw [lockT]
 cases maskOk num s.size
 ·exact Nat.zero_le _
 ·show (ofBytes (sealL (bs k) num (bs s))).size≤_
  rw [ofBytes_size,sealL_len,bs_len];omega
theorem open_lock {k s:ByteArray} {num:Int} (h:(lockT k num s).2=true):openT k num (lockT k num s).1=(s,true)∧(lockT k num s).1.size=s.size+16:=by
 rw [lockT] at h ⊢
 cases hm:maskOk num s.size
 ·rw [hm] at h;cases h
 ·rw [cond_true]
  exact ⟨by show openT k num (ofBytes (sealL (bs k) num (bs s)))=_;rw [open_seal (byt_bs s) (by rw [bs_len];exact hm),ofBytes_bs],by show (ofBytes (sealL (bs k) num (bs s))).size=_;rw [ofBytes_size,sealL_len,bs_len]⟩
theorem lock_open {k t:ByteArray} {num:Int} (h:(openT k num t).2=true):lockT k num (openT k num t).1=(t,true):=by
 obtain ⟨h1,h2,h3,h4,h5⟩:=openT_true h
 have hl:((bs t).take (t.size - 16)).length=t.size - 16:=by rw [List.length_take,bs_len];omega
 have hx:(openT k num t).1.size=t.size - 16:=by rw [←bs_len,h4,xorL_len (by rw [maskL_len];omega),hl]
 rw [lockT,hx,show ((t.size - 16:Nat):Int)=(t.size:Int) - 16 by omega,h2,cond_true,seal_open h,ofBytes_bs]
def tx (k:ByteArray):Int→List SRec→List ByteArray
 | _,[]=>[]
 | i,r::rs=>(lockT k i (recText r).1).1::tx k (i+1) rs
theorem tx_len (k:ByteArray):∀ (l:List SRec) (i:Int),(tx k i l).length=l.length
 | [],_=>rfl
 | r::rs,i=>by rw [tx,List.length_cons,List.length_cons,tx_len k rs]
theorem tx_take (k:ByteArray):∀ (l:List SRec) (i:Int) (w:Nat),(tx k i l).take w=tx k i (l.take w)
 | [],_,w=>by rw [tx,List.take_nil,List.take_nil,tx]
 | r::rs,i,0=>rfl
 | r::rs,i,w+1=>by rw [tx,List.take_succ_cons,List.take_succ_cons,tx,tx_take k rs]
theorem tx_app (k:ByteArray):∀ (l q:List SRec) (i:Int),tx k i (l++q)=tx k i l++tx k (i+l.length) q
 | [],q,i=>by rw [List.nil_append,tx,List.nil_append,List.length_nil];simp
 | r::rs,q,i=>by
  rw [List.cons_append,tx,tx,tx_app k rs,List.length_cons,List.cons_append]
  rw [show i+1+(rs.length:Int)=i+((rs.length+1:Nat):Int) by omega]
def Sound (l:List SRec):Prop:=∀ r ∈ l,(recText r).2=true
theorem tx_size (k:ByteArray):∀ (l:List SRec) (i:Int),0≤i→i+l.length≤1000000000→∀ t ∈ tx k i l,1≤t.size∧t.size≤320
 | [],_,_,_,t,ht=>by cases ht
 | r::rs,i,h0,h1,t,ht=>by
  rw [List.length_cons] at h1
  rw [tx] at ht
  rcases List.mem_cons.1 ht with rfl | ht
  ·have:=(lock_ok (k:=k) (s:=(recText r).1) (num:=i) (by omega) (by have:=recText_size r;omega)).2.2
   have:=recText_size r
   omega
  ·exact tx_size k rs (i+1) (by omega) (by omega) t ht
theorem rdRec_is {r:SRec} (h:(recText r).2=true):rdRec (recText r).1=(r,true):=by
 have:=recText_size r
 rw [rdRec,p_spec_ReadRec_is (text:=(recText r).1) (x:=r) (by omega) (Prod.ext rfl h)];rfl
theorem rdBook_tx (k:ByteArray):∀ (l:List SRec) (i:Int),0≤i→i+l.length≤1000000000→Sound l→rdBook k i (tx k i l)=(l,((frs (tx k i l)).length:Int))
 | [],_,_,_,_=>rfl
 | r::rs,i,h0,h1,hs=>by
  rw [List.length_cons] at h1
  have hz:=recText_size r
  obtain ⟨l1,l2,l3⟩:=lock_ok (k:=k) (s:=(recText r).1) (num:=i) (by omega) (by omega)
  obtain ⟨f1,f2⟩:=frame_ok (t:=(lockT k i (recText r).1).1) (by omega)
  rw [tx,rdBook,(open_lock l1).1]
  dsimp only
  rw [rdRec_is (hs r (List.mem_cons_self ..)),rdBook_tx k rs (i+1) (by omega) (by omega) (fun x hx=>hs x (List.mem_cons_of_mem _ hx)),f2,ofBytes_size,frs,List.length_append]
  show (r::rs,_)=_
  refine congrArg (fun n=>(r::rs,n)) ?_
  show ((frameL _).length:Int)+((frs _).length:Int)=_
  omega
theorem frs_small (k:ByteArray) (ts:List ByteArray) (h:∀ t ∈ ts,1≤t.size∧t.size≤320):(frs ts).length≤334*ts.length:=by
 induction ts with
 | nil=>exact Nat.le_refl 0
 | cons t ts ih=>
  have h1:=ih fun x hx=>h x (List.mem_cons_of_mem _ hx)
  have h2:=h t (List.mem_cons_self ..)
  have h3:=frameL_len (bs t)
  rw [bs_len] at h3
  have h4:=varL_len10 (n:=(t.size:Int)) (by omega)
  rw [frs,List.length_append,List.length_cons];omega
theorem readBook_cut {k file:ByteArray} {l:List SRec} {K:Nat} (hl:l.length≤12) (hs:Sound l) (hK:K≤(frs (tx k 1 l)).length) (hf:bs file=(frs (tx k 1 l)).take K):readBook k file=(l.take (whole (tx k 1 l) K),((frs (tx k 1 (l.take (whole (tx k 1 l) K)))).length:Int)):=by
 have hsz:=tx_size k l 1 (by omega) (by omega)
 have hsm:=frs_small k _ hsz
 rw [tx_len] at hsm
 have hlen:file.size=K:=by rw [←bs_len,hf,List.length_take];omega
 obtain ⟨w1,w2,w3⟩:=whole_le (tx k 1 l) K
 have hu:=unf_frs (file:=file) (by omega) (tx k 1 l) K (file.size+1) 0 (fun t ht=>by have:=hsz t ht;omega) (Nat.zero_le _) (by rw [List.drop_zero];exact hf) (by omega)
 rw [readBook,unfT,show decide ((file.size:Int) > 20000)=false from decide_eq_false (by omega),cond_false,hu]
 dsimp only
 rw [tx_take]
 exact rdBook_tx k _ 1 (by omega) (by rw [List.length_take];omega) (fun r hr=>hs r (List.mem_of_mem_take hr))
theorem enterAll_sound {l:List SRec}:∀ {b:SBook},(enterAllB b l).2=true→Sound l:=by
 induction l with
 | nil=>intro b _ r hr;cases hr
 | cons x xs ih=>
  intro b h r hr
  rw [enterAllB] at h
  cases h2:(enterB b x).2
  ·rw [h2] at h;cases h
  ·rw [h2,cond_true] at h
   rcases List.mem_cons.1 hr with rfl | hr
   ·exact (enterB_ok h2).2.1
   ·exact ih h r hr
theorem drawn_sound {l:List SRec} {b:SBook} (h:Drawn l b):Sound l:=enterAll_sound (b:=bookNew) (by rw [h.1])
theorem chk_eq {α:Type} {c:Bool} {a r:Option α} (hc:c=true) (h:a=r):(bif c then a else none)=r:=by rw [hc];exact h
theorem acts_is {x:List SAct×Bool} {T:ByteArray} (h:x=([⟨1,bookName,T,⟨#[]⟩⟩,⟨2,bookName,⟨#[]⟩,⟨#[]⟩⟩],true)):(x.1.length:Int)=2∧(x.1.getD (0:Int).toNat (⟨0,⟨#[]⟩,⟨#[]⟩,⟨#[]⟩⟩:SAct)).fText=T:=by rw [h];exact ⟨rfl,rfl⟩
theorem reads_end {l:List SRec} {ps:List Int} {k f:ByteArray} {i m:Nat} (hk:(⟨#[107,101,121]⟩:ByteArray)=k) (hkz:k.size=3) (hl:l.length≤12) (hs:Sound l) (h2:spec_DrawPlaces ()=some ps) (hp:ps.length=12) (hpx:∀ x ∈ ps,0≤x∧x<10000) (hsm:(frs (tx k 1 l)).length≤334*l.length) (hi:i+0=l.length) (hf:bs f++frs (tx k ((i:Int)+1) (l.drop i))=frs (tx k 1 l)):L_laws_FnReads (m+1) (.c0 f (i:Int) l)=some true:=by
 rw [List.drop_of_length_le (by omega),tx,frs,List.append_nil] at hf
 have hfz:f.size=(frs (tx k 1 l)).length:=by rw [←bs_len,hf]
 have hall:=readBook_cut (k:=k) (file:=f) (K:=(frs (tx k 1 l)).length) hl hs (Nat.le_refl _) (by rw [List.take_of_length_le (Nat.le_refl _)];exact hf)
 rw [whole_all _ _ (Nat.le_refl _),tx_len,List.take_of_length_le (Nat.le_refl _)] at hall
 have hp0:ps.getD 0 0=ps[0]'(by omega):=getD_at (by omega) 0
 have hpx:=hpx (ps[0]'(by omega)) (List.getElem_mem _)
 have hw:w64 ((f.size:Int)+1)=(f.size:Int)+1:=w64_id (by omega) (by omega)
 have ht:=tmod_lt (a:=ps[0]'(by omega)) (n:=(f.size:Int)+1) hpx.1 (by omega)
 rw [L_laws_FnReads]
 simp only [B_laws_FnReads,hk]
 rw [cond_f (by rw [decide_eq_false_iff_not];omega),p_impl_ReadBook (by omega) (by omega),Option.bind_some,h2,Option.bind_some]
 rw [cond_t (by rw [hp];rfl),hw,show (0:Int).toNat=0 from rfl,hp0]
 generalize (ps[0]'(by omega)).tmod ((f.size:Int)+1)=q at ht
 obtain ⟨K,rfl⟩:∃ K:Nat,q=(K:Int):=⟨q.toNat,by omega⟩
 have hcut:=readBook_cut (k:=k) (file:=f.extract 0 K) (l:=l) (K:=K) hl hs (by omega) (by rw [bs_extract,List.drop_zero,hf])
 obtain ⟨w1,w2,w3⟩:=whole_le (tx k 1 l) K
 rw [tx_take] at w3
 rw [tx_len] at w2
 have hez:(f.extract 0 K).size≤f.size:=by rw [ByteArray.size_extract];omega
 rw [cond_t (by simp;omega),cond_t (by simp;omega),Int.toNat_natCast,p_impl_ReadBook (by omega) (by omega),Option.bind_some,cond_t (by simp;omega),p_spec_ReadBook (by omega) (by omega),Option.bind_some,hall,hcut]
 dsimp only
 rw [p_laws_sameRecs (by omega),Option.bind_some,cond_true,cond_t (by rw [beq_iff_eq];omega),p_laws_sameRecs (by rw [List.length_take];omega),Option.bind_some,cond_true,beq_self_eq_true,cond_true,cond_t (by rw [decide_eq_true_eq];omega),cond_t (by rw [decide_eq_true_eq,List.length_take];omega),cond_t (by rw [Bool.and_eq_true,decide_eq_true_eq,decide_eq_true_eq,List.length_take];omega),List.drop_zero,Nat.sub_zero,Int.toNat_natCast]
 rw [show l.take (l.take (whole (tx k 1 l) K)).length=l.take (whole (tx k 1 l) K) by rw [List.length_take,Nat.min_eq_left w2],p_laws_sameRecs (by rw [List.length_take];omega)]
 rfl
theorem reads_step {l:List SRec} {k f:ByteArray} {i m:Nat} (hk:(⟨#[107,101,121]⟩:ByteArray)=k) (hkz:k.size=3) (hl:l.length≤12) (hs:Sound l) (hsm:(frs (tx k 1 l)).length≤334*l.length) (hlt:i<l.length) (hf:bs f++frs (tx k ((i:Int)+1) (l.drop i))=frs (tx k 1 l)):∃ f',bs f'++frs (tx k (((i+1:Nat):Int)+1) (l.drop (i+1)))=frs (tx k 1 l)∧L_laws_FnReads (m+1) (.c0 f (i:Int) l)=L_laws_FnReads m (.c0 f' ((i+1:Nat):Int) l):=by
 have hw:w64 ((i:Int)+1)=((i+1:Nat):Int):=by rw [w64_id (by omega) (by omega)];rfl
 have hz:=recText_size l[i]
 obtain ⟨l1,l2,l3⟩:=lock_ok (k:=k) (s:=(recText l[i]).1) (num:=(i:Int)+1) (by omega) (by omega)
 obtain ⟨f1,f2⟩:=frame_ok (t:=(lockT k ((i:Int)+1) (recText l[i]).1).1) (by omega)
 have hacts:bookActs k (i:Int) l[i]=([⟨1,bookName,(frameT (lockT k ((i:Int)+1) (recText l[i]).1).1).1,⟨#[]⟩⟩,⟨2,bookName,⟨#[]⟩,⟨#[]⟩⟩],true):=by
  rw [bookActs,hs _ (List.getElem_mem hlt),inR_iff.2 (show 0≤(i:Int)∧(i:Int)≤10000 by omega)];rfl
 rw [drop_at hlt,tx,frs,←List.append_assoc,show (i:Int)+1+1=((i+1:Nat):Int)+1 by omega] at hf
 have hlen:=congrArg List.length hf
 rw [List.length_append,List.length_append,bs_len] at hlen
 have hfr:(frameT (lockT k ((i:Int)+1) (recText l[i]).1).1).1.size=(frameL (bs (lockT k ((i:Int)+1) (recText l[i]).1).1)).length:=by rw [f2,ofBytes_size]
 generalize (frameT (lockT k ((i:Int)+1) (recText l[i]).1).1).1=T at hacts f2 hfr
 obtain ⟨hn,hT⟩:=acts_is hacts
 refine ⟨f++T,by rw [bs_append,f2,bs_ofBytes (frameL_byt (byt_bs _))];exact hf,?_⟩
 rw [L_laws_FnReads]
 simp only [B_laws_FnReads,hk,hw,Int.toNat_natCast,getD_at hlt]
 rw [cond_t (by rw [decide_eq_true_eq];omega),cond_t (by simp;omega),p_spec_BookActs (by omega),Option.bind_some]
 refine chk_eq (by rw [hn];rfl) (chk_eq (decide_eq_true (by rw [hT];omega)) ?_)
 rw [hT]
theorem law_FnReads (x0:Unit):laws_FnReads x0=some true:=by
 rw [laws_FnReads,E_laws_FnReads,p_laws_big,Option.bind_some]
 cases decide ((codeL.length:Int) > 1048576)
 ·rw [cond_false]
  obtain ⟨l,h1,hl,b,hd⟩:=p_spec_DrawRecords
  obtain ⟨ps,h2,hp,hpx⟩:=p_spec_DrawPlaces
  have hs:=drawn_sound hd
  generalize hk:(⟨#[107,101,121]⟩:ByteArray)=k
  have hkz:k.size=3:=by rw [←hk];rfl
  have hsz:=tx_size k l 1 (by omega) (by omega)
  have hsm:=frs_small k _ hsz
  rw [tx_len] at hsm
  have key:∀ (j i m:Nat) (f:ByteArray),i+j=l.length→bs f++frs (tx k ((i:Int)+1) (l.drop i))=frs (tx k 1 l)→L_laws_FnReads (m+j+1) (.c0 f (i:Int) l)=some true:=by
   intro j
   induction j with
   | zero=>
    intro i m f hi hf
    exact reads_end hk hkz hl hs h2 hp hpx hsm hi hf
   | succ j ih=>
    intro i m f hi hf
    obtain ⟨f',e1,e2⟩:=reads_step (m:=m+j+1) hk hkz hl hs hsm (by omega) hf
    rw [show m+(j+1)+1=(m+j+1)+1 from rfl,e2]
    exact ih (i+1) m f' (by omega) e1
  obtain ⟨m,hm⟩:∃ m,gas=m+l.length+1:=⟨gas - (l.length+1),by have:=gas_lt (n:=l.length+1) (by omega);omega⟩
  rw [h1,Option.bind_some,hm]
  exact key l.length 0 m ⟨#[]⟩ (Nat.zero_add _) (by rw [List.drop_zero,bs_nil,List.nil_append,show ((0:Nat):Int)+1=1 by omega])
 ·rfl
end Go.Proofs.YtjfkbidckphneaaGreatDoor.G
