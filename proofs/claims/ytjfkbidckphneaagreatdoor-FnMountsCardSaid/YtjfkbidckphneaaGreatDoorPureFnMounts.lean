/- The plain law of FnMounts: whatever the arguments, it answers true. Conditions: what is read is in reach. Part 2 of 2. -/
import Derived.Test.YtjfkbidckphneaaGreatDoorPureFnMountsa
namespace Go.Proofs.YtjfkbidckphneaaGreatDoor.G
open Go Go.Ev
set_option linter.unusedVariables false
set_option linter.unusedSimpArgs false
set_option linter.unusedSectionVars false
variable [PC]
theorem rec_end2 {text:ByteArray} (x:SRec):∃ r,(bif !(recText x).2 then some (zRec,false) else bif !((ByteArray.toList (recText x).1) == (ByteArray.toList text)) then some (zRec,false) else some (x,true))=some r∧ReadsRec text r:=rec_end x false
theorem p_impl_ReadRec {text:ByteArray} (hs:text.size≤140737488351232):∃ r,impl_ReadRec text=some r∧ReadsRec text r:=by
 simp only [impl_ReadRec,E_impl_ReadRec]
 rw [toList_inj]
 by_cases he:text=⟨#[]⟩
 ·rw [decide_eq_true he];exact ⟨_,rfl,.inr rfl⟩
 ·have hz:0<text.size:=by
   rcases Nat.eq_zero_or_pos text.size with h | h
   ·exact absurd (bs_inj (List.eq_nil_of_length_eq_zero (by rw [bs_len];exact h)):text=⟨#[]⟩) he
   ·exact h
  rw [decide_eq_false he,show decide ((0:Int)<(text.size:Int))=true from decide_eq_true (by omega),show decide ((1:Int)≤(text.size:Int))=true from decide_eq_true (by omega)]
  have hb:=bt_byte text 0
  rw [w64_id (n:=bt text 0) (by omega) (by omega)]
  obtain ⟨⟨t,tb⟩,e1,_⟩:=p_impl_ReadThing (text:=text.extract (1:Int).toNat text.size) (by rw [ByteArray.size_extract];omega)
  obtain ⟨⟨v,q,ok⟩,e2,hR⟩:=p_impl_ReadVar (a:=1) hs hz
  have hv:v≤1000000000:=by
   rcases hR with h | ⟨v',_,h,_,h1,_⟩
   ·have:=congrArg Prod.fst h;simp only [no3] at this;omega
   ·have:=congrArg Prod.fst h;simp only at this;omega
  rw [e1,show impl_ReadVar text (1:Int)=_ from e2]
  simp only [Option.bind_some,cond_false,cond_true,Bool.and_self]
  cases bt text 0 == 1
  ·simp only [cond_false]
   cases bt text 0 == 3
   ·simp only [cond_false]
    rw [p_impl_RecText (by simp only;omega)]
    exact rec_end2 _
   ·simp only [cond_true]
    rw [p_impl_RecText (by simp only;omega)]
    exact rec_end2 _
  ·simp only [cond_true]
   rw [p_impl_RecText (by simp only;omega)]
   exact rec_end2 _
theorem p_impl_ReadRec_is {text:ByteArray} {x:SRec} (hs:text.size≤140737488351232) (h:recText x=(text,true)):impl_ReadRec text=some (x,true):=by
 have hne:∀ (k:Int) (s:ByteArray),(decide (ofBytes [k]++s=⟨#[]⟩))=false:=fun k s=>decide_eq_false fun h=>by
  have:=congrArg ByteArray.size h
  rw [ba_append_size,ofBytes_size] at this
  simp only [List.length_singleton] at this
  have h0:(⟨#[]⟩:ByteArray).size=0:=rfl
  omega
 have hd:∀ (k:Int) (s:ByteArray),decide ((0:Int)<((ofBytes [k]++s).size:Int))=true∧decide ((1:Int)≤((ofBytes [k]++s).size:Int))=true:=fun k s=>by
  rw [ba_append_size,ofBytes_size];simp only [List.length_singleton]
  exact ⟨decide_eq_true (by omega),decide_eq_true (by omega)⟩
 have hk:∀ (k:Int) (s:ByteArray),0≤k→k≤255→w64 (bt (ofBytes [k]++s) 0)=k:=fun k s h0 h1=>by
  rw [(rec_at (k:=k) (s:=s) h0 h1).left.head.2 |> fun e=>(show bt (ofBytes [k]++s) 0=k from e),w64_id (by omega) (by omega)]
 rcases rec_parts h with ⟨s,rfl,hz,rfl⟩ | ⟨n,rfl,h0,h1,rfl⟩ | ⟨t,s,rfl,ht,rfl⟩ | ⟨n,rfl,h0,h1,rfl⟩
 ·have h':recText ⟨1,s,0,⟨(0:Int),(0:Int),false,false,false,false,(⟨#[]⟩:ByteArray),(0:Int)⟩⟩=_:=h
  simp only [impl_ReadRec,E_impl_ReadRec,hk 1 s (by omega) (by omega),hd,rec_tail,p_impl_RecText (r:=⟨1,s,0,⟨(0:Int),(0:Int),false,false,false,false,(⟨#[]⟩:ByteArray),(0:Int)⟩⟩) (by simp only;omega),h',Option.bind_some,toList_inj,hne]
  simp [zRec]
 ·have hA:=rec_at (k:=2) (s:=ofBytes (varL n)) (by omega) (by omega)
  rw [bs_ofBytes (varL_byte n h0)] at hA
  have e1:=p_impl_ReadVar_is hs (by omega) (by omega) hA.right
  simp only [List.length_singleton,Nat.zero_add] at e1
  have e2:impl_ReadVar (ofBytes [2]++ofBytes (varL n)) (1:Int)=_:=e1
  have h':recText ⟨2,⟨#[]⟩,n,⟨(0:Int),(0:Int),false,false,false,false,(⟨#[]⟩:ByteArray),(0:Int)⟩⟩=_:=h
  simp only [impl_ReadRec,E_impl_ReadRec,hk 2 _ (by omega) (by omega),hd,e2,Option.bind_some,p_impl_RecText (r:=⟨2,⟨#[]⟩,n,⟨(0:Int),(0:Int),false,false,false,false,(⟨#[]⟩:ByteArray),(0:Int)⟩⟩) (by simp only;omega),h',toList_inj,hne]
  simp [zRec]
 ·have hsz:s.size≤140737488351232:=by rw [ba_append_size] at hs;omega
  have e1:=p_impl_ReadThing_is hsz ht
  have h':recText ⟨3,⟨#[]⟩,0,t⟩=_:=h
  simp only [impl_ReadRec,E_impl_ReadRec,hk 3 s (by omega) (by omega),hd,rec_tail,e1,Option.bind_some,p_impl_RecText (r:=⟨3,⟨#[]⟩,0,t⟩) (by simp only;omega),h',toList_inj,hne]
  simp [zRec]
 ·have hA:=rec_at (k:=4) (s:=ofBytes (varL n)) (by omega) (by omega)
  rw [bs_ofBytes (varL_byte n (by omega))] at hA
  have e1:=p_impl_ReadVar_is hs (by omega) (by omega) hA.right
  simp only [List.length_singleton,Nat.zero_add] at e1
  have e2:impl_ReadVar (ofBytes [4]++ofBytes (varL n)) (1:Int)=_:=e1
  have h':recText ⟨4,⟨#[]⟩,n,⟨(0:Int),(0:Int),false,false,false,false,(⟨#[]⟩:ByteArray),(0:Int)⟩⟩=_:=h
  simp only [impl_ReadRec,E_impl_ReadRec,hk 4 _ (by omega) (by omega),hd,e2,Option.bind_some,p_impl_RecText (r:=⟨4,⟨#[]⟩,n,⟨(0:Int),(0:Int),false,false,false,false,(⟨#[]⟩:ByteArray),(0:Int)⟩⟩) (by simp only;omega),h',toList_inj,hne]
  simp [zRec]
theorem recs_same {text:ByteArray} (hs:text.size≤140737488351232):∃ r,spec_ReadRec text=some r∧impl_ReadRec text=some r∧ReadsRec text r:=by
 obtain ⟨r,hr,h⟩:=p_spec_ReadRec hs
 obtain ⟨q,hq,h'⟩:=p_impl_ReadRec hs
 rcases h with ⟨h1,h2⟩ | h
 ·have:=p_impl_ReadRec_is hs h2
  refine ⟨r,hr,?_,.inl ⟨h1,h2⟩⟩
  rw [this];congr 1;exact Prod.ext rfl h1.symm
 ·rcases h' with ⟨h1,h2⟩ | h'
  ·have:=p_spec_ReadRec_is hs h2
   rw [hr] at this
   injection this with this
   rw [h] at this
   exact Bool.noConfusion (congrArg Prod.snd this)
  ·exact ⟨r,hr,by rw [hq,h',h],.inr h⟩
theorem p_impl_Frame {t:ByteArray} (h:t.size≤140737488351232):impl_Frame t=some (frameT t):=by
 rw [impl_Frame,E_impl_Frame,p_impl_in,Option.bind_some,frameT]
 cases h1:inR (t.size:Int) 1 9000
 ·rfl
 ·rw [inR_iff] at h1
  have:=varL_len10 (n:=(t.size:Int)) (by omega)
  rw [cond_f (by rfl),p_impl_varText (by omega),Option.bind_some,p_impl_SumOf h,Option.bind_some,p_impl_fourBytes (sumL_r _),Option.bind_some,cond_t (by rw [ofBytes_size,ofBytes_size,decide_eq_true_eq];have:(four (sumL (bs t))).length=4:=rfl;omega)]
  rw [cond_t (by rw [ByteArray.size_append,ofBytes_size,ofBytes_size,decide_eq_true_eq];have:(four (sumL (bs t))).length=4:=rfl;omega),frame_cat,cond_true]
theorem xorL_xorL:∀ {a m:List Int},Byt a→a.length≤m.length→xorL (xorL a m) m=a
 | [],_,_,_=>by simp [xorL]
 | _::_,[],_,h=>by simp at h
 | x::a,y::m,hb,h=>by
  have h1:=xorL_xorL (a:=a) (m:=m) (fun n hn=>hb n (List.mem_cons_of_mem _ hn)) (by simpa using h)
  simp only [xorL] at h1 ⊢
  rw [List.zipWith_cons_cons,List.zipWith_cons_cons,h1,xb_xb (hb x (List.mem_cons_self ..))]
theorem openT_true {k t:ByteArray} {num:Int} (h:(openT k num t).2=true):16≤t.size∧maskOk num ((t.size:Int) - 16)=true∧tagL (bs k) num ((bs t).take (t.size - 16))=(bs t).drop (t.size - 16)∧bs (openT k num t).1=xorL ((bs t).take (t.size - 16)) (maskL (bs k) (varL num) (t.size - 16))∧bs t=(bs t).take (t.size - 16)++tagL (bs k) num ((bs t).take (t.size - 16)):=by
 rw [openT] at h ⊢
 cases h1:decide ((t.size:Int)<16) || !(maskOk num ((t.size:Int) - 16))
 ·rw [h1,cond_false] at h
  rw [Bool.or_eq_false_iff,decide_eq_false_iff_not,Bool.not_eq_false'] at h1
  cases h2:(tagL (bs k) num ((bs t).take (t.size - 16)) == (bs t).drop (t.size - 16))
  ·rw [h2] at h;cases h
  ·rw [cond_false,cond_true,bs_ofBytes (xorL_byt _ _)]
   have h3:=beq_iff_eq.1 h2
   exact ⟨by omega,h1.2,h3,rfl,by rw [h3,List.take_append_drop]⟩
 ·rw [h1] at h;cases h
theorem openT_size (k t:ByteArray) (num:Int):(openT k num t).1.size≤t.size:=by
 have hl:=bs_len t
 rw [openT]
 cases decide ((t.size:Int)<16) || !(maskOk num ((t.size:Int) - 16))
 ·rw [cond_false]
  cases (tagL (bs k) num ((bs t).take (t.size - 16)) == (bs t).drop (t.size - 16))
  ·exact Nat.zero_le _
  ·rw [cond_true,ofBytes_size,xorL,List.length_zipWith,List.length_take];omega
 ·exact Nat.zero_le _
theorem open_seal {k:ByteArray} {num:Int} {s:List Int} (hs:Byt s) (hm:maskOk num s.length=true):openT k num (ofBytes (sealL (bs k) num s))=(ofBytes s,true):=by
 have hx:(xorL s (maskL (bs k) (varL num) s.length)).length=s.length:=xorL_len (by rw [maskL_len];omega)
 have hb:Byt (sealL (bs k) num s):=fun x hx=>by
  rcases List.mem_append.1 hx with hx | hx
  ·exact xorL_byt _ _ x hx
  ·exact tagL_byt _ _ _ x hx
 have hsz:(ofBytes (sealL (bs k) num s)).size=s.length+16:=by rw [ofBytes_size,sealL,List.length_append,hx,tagL_len]
 rw [openT,bs_ofBytes hb,hsz,Nat.add_sub_cancel,show ((s.length+16:Nat):Int) - 16=(s.length:Int) by omega,hm]
 have h1:decide (((s.length+16:Nat):Int)<16)=false:=by rw [decide_eq_false_iff_not];omega
 have h2:(sealL (bs k) num s).take s.length=xorL s (maskL (bs k) (varL num) s.length):=by rw [sealL,List.take_append_of_le_length (by omega),List.take_of_length_le (by omega)]
 have h3:(sealL (bs k) num s).drop s.length=tagL (bs k) num (xorL s (maskL (bs k) (varL num) s.length)):=by rw [sealL,List.drop_append_of_le_length (by omega),List.drop_of_length_le (by omega),List.nil_append]
 rw [h1,h2,h3,beq_self_eq_true,xorL_xorL hs (by rw [maskL_len];omega)]
 rfl
theorem seal_open {k t:ByteArray} {num:Int} (h:(openT k num t).2=true):sealL (bs k) num (bs (openT k num t).1)=bs t:=by
 obtain ⟨h1,h2,h3,h4,h5⟩:=openT_true h
 have hl:((bs t).take (t.size - 16)).length=t.size - 16:=by rw [List.length_take,bs_len];omega
 have hx:(bs (openT k num t).1).length=t.size - 16:=by rw [h4,xorL_len (by rw [maskL_len];omega),hl]
 rw [sealL,hx,h4,xorL_xorL (fun n hn=>byt_bs t n (List.mem_of_mem_take hn)) (by rw [maskL_len];omega),←h5]
theorem seal_inj {k:ByteArray} {num:Int} {a b:List Int} (ha:Byt a) (hb:Byt b) (h:sealL (bs k) num a=sealL (bs k) num b):a=b:=by
 have xa:(xorL a (maskL (bs k) (varL num) a.length)).length=a.length:=xorL_len (by rw [maskL_len];omega)
 have xb':(xorL b (maskL (bs k) (varL num) b.length)).length=b.length:=xorL_len (by rw [maskL_len];omega)
 have hl:=congrArg List.length h
 rw [sealL,sealL,List.length_append,List.length_append,xa,xb',tagL_len,tagL_len] at hl
 have hab:a.length=b.length:=by omega
 have h1:=(List.append_inj h (by rw [xa,xb',hab])).1
 have h2:xorL (xorL a (maskL (bs k) (varL num) a.length)) (maskL (bs k) (varL num) a.length)=xorL (xorL b (maskL (bs k) (varL num) b.length)) (maskL (bs k) (varL num) b.length):=by rw [h1,hab]
 rw [xorL_xorL ha (by rw [maskL_len];omega),xorL_xorL hb (by rw [maskL_len];omega)] at h2
 exact h2
noncomputable def rdRec (t:ByteArray):SRec×Bool:=(spec_ReadRec t).getD (⟨0,⟨#[]⟩,0,⟨0,0,false,false,false,false,⟨#[]⟩,0⟩⟩,false)
theorem e_spec_rdRec {t:ByteArray} (h:t.size≤140737488351232):spec_ReadRec t=some (rdRec t):=by
 obtain ⟨r,h1,_⟩:=p_spec_ReadRec h
 rw [rdRec,h1];rfl
theorem e_impl_rdRec {t:ByteArray} (h:t.size≤140737488351232):impl_ReadRec t=some (rdRec t):=by
 obtain ⟨r,h1,h2,_⟩:=recs_same h
 rw [rdRec,h1,h2];rfl
theorem rdRec_reads {t:ByteArray} (h:t.size≤140737488351232):ReadsRec t (rdRec t):=by
 obtain ⟨r,h1,h2⟩:=p_spec_ReadRec h
 rw [rdRec,h1];exact h2
noncomputable def rdBook (k:ByteArray):Int→List ByteArray→List SRec×Int
 | _,[]=>([],0)
 | i,f::fs=>bif (openT k i f).2 && (rdRec (openT k i f).1).2 then ((rdRec (openT k i f).1).1::(rdBook k (i+1) fs).1,((frameT f).1.size:Int)+(rdBook k (i+1) fs).2) else ([],0)
noncomputable def readBook (k file:ByteArray):List SRec×Int:=rdBook k 1 (unfT file).1
theorem unf_small {file:ByteArray} (hs:file.size≤140737488351232):∀ (j a:Nat),a≤file.size→(∀ f ∈ (unf j file a).1,f.size≤file.size)∧(unf j file a).1.length+a≤file.size∧(unf j file a).2≤file.size:=by
 intro j
 induction j with
 | zero=>intro a ha;exact ⟨fun f hf=>(by cases hf),by simpa [unf] using ha,ha⟩
 | succ j ih=>
  intro a ha
  rw [unf]
  rcases nextF_x hs ha with h | ⟨v,q,_,hq,_,_,_,h3,_,_,h⟩
  ·rw [h];exact ⟨fun f hf=>(by cases hf),by simpa using ha,ha⟩
  ·rw [h]
   obtain ⟨i1,i2,i3⟩:=ih (q+4+v.toNat) h3
   refine ⟨fun f hf=>?_,?_,i3⟩
   ·rcases List.mem_cons.1 hf with rfl | hf
    ·show (file.extract (q+4) (q+4+v.toNat)).size≤file.size
     rw [ByteArray.size_extract];omega
    ·exact i1 f hf
   ·show (_::(unf j file (q+4+v.toNat)).1).length+a≤file.size
    rw [List.length_cons];omega
theorem unfT_small {file:ByteArray}:(∀ f ∈ (unfT file).1,f.size≤20000)∧(unfT file).1.length≤20000∧0≤(unfT file).2∧(unfT file).2≤(file.size:Int):=by
 rw [unfT]
 by_cases h:(file.size:Int) > 20000
 ·rw [decide_eq_true h]
  exact ⟨fun f hf=>(by cases hf),(by decide:0≤20000),Int.le_refl 0,by show (0:Int)≤_;omega⟩
 ·rw [decide_eq_false h]
  obtain ⟨h1,h2,h3⟩:=unf_small (file:=file) (by omega) (file.size+1) 0 (Nat.zero_le _)
  exact ⟨fun f hf=>by have:=h1 f hf;omega,by show (unf (file.size+1) file 0).1.length≤20000;omega,by show (0:Int)≤((unf (file.size+1) file 0).2:Int);omega,by show ((unf (file.size+1) file 0).2:Int)≤_;omega⟩
theorem rdBook_len (k:ByteArray):∀ (fs:List ByteArray) (i:Int),(rdBook k i fs).1.length≤fs.length:=by
 intro fs
 induction fs with
 | nil=>intro i;exact Nat.le_refl _
 | cons f fs ih=>
  intro i
  rw [rdBook]
  cases (openT k i f).2 && (rdRec (openT k i f).1).2
  ·exact Nat.zero_le _
  ·rw [cond_true,List.length_cons,List.length_cons];have:=ih (i+1);omega
theorem p_impl_ReadBook {k file:ByteArray} (hk:k.size≤900000000) (hf:file.size≤140737488351232):impl_ReadBook k file=some (readBook k file):=by
 obtain ⟨u1,u2,_,_⟩:=unfT_small (file:=file)
 rw [impl_ReadBook,E_impl_ReadBook,p_impl_Unframe hf,Option.bind_some,readBook]
 generalize (unfT file).1=l at u1 u2
 have key:∀ (j i m:Nat) (e:Int) (out:List SRec),i+j=l.length→0≤e→e≤30000*i→out.length≤i→L_impl_ReadBook (m+j+1) (.c0 k e (l.length:Int) (i:Int) out l)=some (out++(rdBook k ((i:Int)+1) (l.drop i)).1,e+(rdBook k ((i:Int)+1) (l.drop i)).2):=by
  intro j
  induction j with
  | zero=>
   intro i m e out h he he2 ho
   obtain rfl:i=l.length:=by omega
   rw [L_impl_ReadBook]
   simp only [B_impl_ReadBook]
   rw [cond_f (by simp),List.drop_length,rdBook,List.append_nil,Int.add_zero]
  | succ j ih=>
   intro i m e out h he he2 ho
   have hi:i<l.length:=by omega
   have hz:=u1 _ (List.getElem_mem hi)
   have ew:w64 ((i:Int)+1)=((i+1:Nat):Int):=by rw [w64_id (by omega) (by omega)];rfl
   have hoz:=openT_size k l[i] ((i+1:Nat):Int)
   have hfz:=frameT_size (t:=l[i]) (by omega)
   rw [show m+(j+1)+1=(m+j+1)+1 by omega,L_impl_ReadBook]
   simp only [B_impl_ReadBook,ew,Int.toNat_natCast,getD_at hi]
   rw [cond_t (by simp;omega),cond_t (by simp;omega),p_impl_OpenText hk (by omega),Option.bind_some,e_impl_rdRec (by omega),Option.bind_some,drop_at hi,rdBook,show ((i:Int)+1)=((i+1:Nat):Int) from rfl]
   cases (openT k ((i+1:Nat):Int) l[i]).2
   ·rw [Bool.false_and,cond_false,List.append_nil,Int.add_zero];rfl
   ·rw [cond_f (by rfl),Bool.true_and]
    cases (rdRec (openT k ((i+1:Nat):Int) l[i]).1).2
    ·rw [cond_false,List.append_nil,Int.add_zero];rfl
    ·have h2:=ih (i+1) m (e+((frameT l[i]).1.size:Int)) (out++[(rdRec (openT k ((i+1:Nat):Int) l[i]).1).1]) (by omega) (by omega) (by omega) (by simp;omega)
     simp only [Bool.not_true,cond_false,cond_true]
     rw [cond_t (by simp;omega),p_impl_Frame (by omega),Option.bind_some,w64_id (by omega) (by omega),h2,List.append_assoc,Int.add_assoc]
     rfl
 obtain ⟨m,hm⟩:∃ m,gas=m+l.length+1:=⟨gas - (l.length+1),by have:=gas_lt (n:=l.length+1) (by omega);omega⟩
 have h0:=key l.length 0 m 0 [] (by omega) (by omega) (by omega) (Nat.le_refl _)
 rw [List.nil_append,Int.zero_add,List.drop_zero] at h0
 rw [hm]
 exact h0
theorem MAE:Qh=some bookNew:=by
 rw [Qh,Xt,p_impl_DigestOf (by decide),Option.bind_some,show (32:Int)=((32:Nat):Int) from rfl,p_impl_zeros (by omega),Option.bind_some];rfl
theorem Q7 {b:SBook} (h:b.fThings.length≤2932031007317):PZ b=some b:=by
 rw [PZ,Yt,cond_t (by simp;omega)]
def Zm (b:SBook):Bool:=(b.fWord.size:Int) == 32 && ((b.fChain.size:Int) == 32 && (inR b.fTries 0 3 && (decide ((b.fThings.length:Int)≤8) && (inR b.fLast 0 1000 && inR b.fCount 0 10000))))
theorem NAE {b:SBook} (hb:b.fThings.length≤140737488351232):∀ m i,i≤b.fThings.length→b.fThings.length - i<m→Ic m (.c0 b.fThings b.fThings.length i b)=some (rise b.fLast (prevId b.fThings i) (b.fThings.drop i) && Zm b):=fun m i h1 h2=>
 loopN (A:=Unit) (n:=b.fThings.length) (Lp:=Ic) (st:=fun i _=>.c0 b.fThings b.fThings.length i b) (Inv:=fun _ _=>True) (out:=fun i _=>some (rise b.fLast (prevId b.fThings i) (b.fThings.drop i) && Zm b))
  (fun m _ _=>by
   simp only [Ic,Om,p_impl_in,Option.bind_some,Zm]
   rw [show decide ((b.fThings.length:Int)<(b.fThings.length:Int))=false from decide_eq_false (by omega),List.drop_of_length_le (Nat.le_refl _)]
   cases (b.fWord.size:Int) == 32 <;> cases (b.fChain.size:Int) == 32 <;> cases inR b.fTries 0 3 <;> cases decide ((b.fThings.length:Int)≤8) <;> cases inR b.fLast 0 1000 <;> rfl)
  (fun m i _ hi _=>by
   have hw:w64 ((i:Int)+1)=((i+1:Nat):Int):=by rw [w64_id (by omega) (by omega)];rfl
   simp only [rise_at hi]
   simp only [Ic,Om,Int.toNat_natCast,getD_at hi,p_impl_ThingOk,Option.bind_some,hw]
   rw [show decide ((i:Int)<(b.fThings.length:Int))=true from decide_eq_true (by omega),show decide ((0:Int)≤(i:Int))=true from decide_eq_true (by omega)]
   simp only [Bool.and_self,cond_true]
   cases h1:thingOk b.fThings[i]
   ·exact .inl rfl
   ·cases h2:decide (b.fThings[i].fId > b.fLast)
    ·by_cases h0:i=0
     ·subst h0
      refine .inr ⟨(),rfl,trivial,?_⟩
      rw [show decide (prevId b.fThings 0≥b.fThings[0].fId)=false from decide_eq_false (by have:=(thingOk_kind h1).2.2.1;simp only [prevId];omega)]
      rfl
     ·obtain ⟨j,rfl⟩:∃ j,i=j+1:=⟨i - 1,by omega⟩
      have hj:w64 (((j+1:Nat):Int) - 1)=(j:Int):=by rw [w64_id (by omega) (by omega)];omega
      have hjl:j<b.fThings.length:=by omega
      rw [prevId_at hjl]
      simp only [hj,Int.toNat_natCast,getD_at hjl,Bool.not_true,Bool.not_false,cond_false,Bool.true_and]
      rw [show decide (((j+1:Nat):Int) > 0)=true from decide_eq_true (by omega),show decide ((0:Int)≤(j:Int))=true from decide_eq_true (by omega),show decide ((j:Int)<(b.fThings.length:Int))=true from decide_eq_true (by omega)]
      simp only [Bool.and_self,cond_true]
      cases h3:decide (b.fThings[j].fId≥b.fThings[j+1].fId)
      ·exact .inr ⟨(),rfl,trivial,rfl⟩
      ·exact .inl rfl
    ·exact .inl rfl) m i () h1 h2 trivial
theorem OAE {b:SBook} (hb:b.fThings.length≤140737488351232):Vh b=some (bookOk b):=by
 have h0:=NAE hb gas 0 (Nat.zero_le _) (gas_lt (by omega))
 simp only [Vh,Du]
 refine h0.trans (congrArg some ?_)
 simp only [bookOk,Zm,List.drop_zero,prevId]
 cases rise b.fLast 0 b.fThings <;> simp
theorem U7 {b:SBook} {t:Int} (h:b.fThings.length≤140737488351232):Lc b t=some (match placeIn b.fThings t 0 with | some j=>(j:Int) | none=> -1):=by
 have key:∀ m i,i≤b.fThings.length→b.fThings.length - i<m→Jc m (.c0 t b.fThings b.fThings.length i)=some (match placeIn (b.fThings.drop i) t i with | some j=>(j:Int) | none=> -1):=fun m i h1 h2=>
  loopN (A:=Unit) (n:=b.fThings.length) (Lp:=Jc) (st:=fun i _=>.c0 t b.fThings b.fThings.length i) (Inv:=fun _ _=>True) (out:=fun i _=>some (match placeIn (b.fThings.drop i) t i with | some j=>(j:Int) | none=> -1))
   (fun m _ _=>by simp [Jc,Qm,placeIn])
   (fun m i _ hi _=>by
    have hw:w64 ((i:Int)+1)=((i+1:Nat):Int):=by rw [w64_id (by omega) (by omega)];rfl
    simp only [Jc,Qm,Int.toNat_natCast,getD_at hi,hw,drop_at hi,placeIn]
    cases hq:b.fThings[i].fId == t
    ·exact .inr ⟨(),by simp [hi],trivial,by simp⟩
    ·exact .inl (by simp [hi])) m i () h1 h2 trivial
 have h0:=key gas 0 (Nat.zero_le _) (gas_lt (by omega))
 exact h0
theorem PAE (x y:SThing):Xh x y=some (grown x y):=by
 rw [Xh,Gu,grown,tl_bs,show decide (y.fNext≥x.fNext)=decide (x.fNext≤y.fNext) from rfl]
 cases (y.fKind == x.fKind) <;> cases (bs y.fValue == bs x.fValue) <;> cases y.fSigns <;> cases x.fSigns <;> cases y.fWraps <;> cases x.fWraps <;> cases decide (x.fNext≤y.fNext) <;> cases y.fHidden <;> cases x.fHidden <;> cases y.fFixed <;> cases x.fFixed <;> rfl
theorem QAE {b:SBook} {x:SThing} (hb:bookOk b=true) (hx:x.fId≤1000):Yh b x=some (match putThing b x with
 | some p=>(true,⟨b.fWord,b.fTries,p.1,p.2,b.fChain,b.fCount⟩)
 | none=>(false,b)):=by
 obtain ⟨b1,b2,b3,b4,b5,b6,b7⟩:=bookOk_iff.1 hb
 rw [Yh,Iu,U7 (by omega),Option.bind_some,putThing]
 rcases thing_place (xs:=b.fThings) (id:=x.fId) with ⟨o,j,t1,t2,t3,t4,t5⟩ | ⟨t1,t2⟩
 ·have hg:∀ z,b.fThings.getD j z=o:=fun z=>by rw [List.getD,t4];rfl
  have hs:=(set_put b7 t2).1
  rw [Nat.sub_zero] at hs
  rw [t1,t2]
  simp only [Int.toNat_natCast,hg,PAE,Option.bind_some,hs]
  rw [cond_t (by simp),cond_t (by simp;omega)]
  cases grown o x
  ·rfl
  ·rw [cond_f (by rfl),cond_t (by simp;omega)];rfl
 ·rw [t1,t2]
  simp only
  have hw:w64 (b.fLast+1)=b.fLast+1:=w64_id (by omega) (by omega)
  rw [cond_f (by rfl),hw]
  cases h1:(x.fId != b.fLast+1)
  ·by_cases h2:(b.fThings.length:Int)≥8
   ·rw [decide_eq_true h2];rfl
   ·rw [decide_eq_false h2,cond_false,cond_false,cond_t (by simp;omega)];rfl
  ·rfl
theorem RAE {b:SBook} {r:SRec} (hb:b.fThings.length≤140737488351232) (hr:r.fNum≤9223372036854775807):Za b r=some (enterB b r):=by
 rw [Za,Ju,p_impl_RecText hr,Option.bind_some,OAE hb,Option.bind_some,enterB]
 cases h1:bookOk b
 ·rfl
 cases h2:(recText r).2
 ·rfl
 by_cases h3:b.fCount≥10000
 ·rw [decide_eq_true h3];rfl
 obtain ⟨b1,b2,b3,b4,b5,b6,b7⟩:=bookOk_iff.1 h1
 have hz:=recText_size r
 have hw:w64 (b.fCount+1)=b.fCount+1:=w64_id (by omega) (by omega)
 have hdig:=p_impl_DigestOf (s:=b.fChain++(recText r).1) (by rw [ByteArray.size_append];omega)
 have hsz:decide (b.fChain.size+(recText r).1.size≤9223372036854775807)=true:=by rw [decide_eq_true_eq];omega
 simp only [decide_eq_false h3,Bool.not_true,Bool.or_self,cond_false,Q7 (show b.fThings.length≤2932031007317 by omega),hdig,hsz,hw,Option.bind_some,cond_true]
 rcases recText_cases h2 with ⟨hk,hc⟩ | ⟨hk,hc⟩ | ⟨hk,hc⟩ | ⟨hk,hc⟩
 ·rw [hk];rfl
 ·rw [hk];rfl
 ·rw [hk]
  simp only [show ((3:Int) == 1)=false from rfl,show ((3:Int) == 2)=false from rfl,show ((3:Int) == 3)=true from rfl,cond_true,cond_false]
  rw [QAE h1 (thingOk_kind hc).2.2.2.1,Option.bind_some]
  cases putThing b r.fThing with
  | none=>rfl
  | some p=>simp only [Bool.not_true,cond_false,hw]
 ·rw [hk]
  simp only [show ((4:Int) == 1)=false from rfl,show ((4:Int) == 2)=false from rfl,show ((4:Int) == 3)=false from rfl,show ((4:Int) == 4)=true from rfl,cond_true,cond_false]
  rw [U7 hb,Option.bind_some]
  rcases thing_place (xs:=b.fThings) (id:=r.fNum) with ⟨o,j,t1,t2,t3,t4,t5⟩ | ⟨t1,t2⟩
  ·have hs:=(set_put (x:=⟨r.fNum,0,false,false,false,false,⟨#[]⟩,0⟩) b7 t2).2
   rw [Nat.sub_zero] at hs
   simp only at hs
   rw [t1,t2]
   simp only [Int.toNat_natCast]
   have e:w64 ((j:Int)+1)=((j+1:Nat):Int):=by rw [w64_id (by omega) (by omega)];rfl
   simp only [e,Int.toNat_natCast,List.drop_zero,List.take_length,hs]
   rw [cond_f (by simp),cond_t (by simp;omega),cond_t (by rw [List.length_take,decide_eq_true_eq];omega),cond_t (by simp;omega),cond_t (by rw [List.length_take,List.length_drop,decide_eq_true_eq];omega)]
  ·rw [t1,t2];rfl
theorem SAE {b:SBook} {l:List SRec} (hb:b.fThings.length≤2932031007317) (hl:l.length≤140737488351232) (hr:∀ r ∈ l,r.fNum≤9223372036854775807):Ci b l=some (enterAllB b l):=by
 have key:∀ (j i m:Nat) (b:SBook),i+j=l.length→b.fThings.length≤2932031007317→Ai (m+j+1) (.c0 l (l.length:Int) (i:Int) ⟨#[]⟩ 0 0 ⟨#[]⟩ 0 b.fWord b.fTries b.fLast b.fChain b.fCount [] b.fThings)=some (enterAllB b (l.drop i)):=by
  intro j
  induction j with
  | zero=>
   intro i m b h hb
   obtain rfl:i=l.length:=by omega
   rw [Ai]
   simp only [Um]
   rw [cond_f (by simp),List.drop_length];rfl
  | succ j ih=>
   intro i m b h hb
   have hi:i<l.length:=by omega
   have e:w64 ((i:Int)+1)=((i+1:Nat):Int):=by rw [w64_id (by omega) (by omega)];rfl
   rw [show m+(j+1)+1=(m+j+1)+1 by omega,Ai]
   simp only [Um,e,Int.toNat_natCast,getD_at hi]
   rw [cond_t (by simp;omega),cond_t (by simp;omega),RAE (by show b.fThings.length≤_;omega) (hr _ (List.getElem_mem hi)),Option.bind_some,drop_at hi,enterAllB]
   cases h2:(enterB b l[i]).2
   ·rfl
   ·have h3:=enterB_len h2
    rw [cond_f (by rfl),cond_true]
    exact ih (i+1) m (enterB b l[i]).1 (by omega) (by omega)
 obtain ⟨m,hm⟩:∃ m,gas=m+l.length+1:=⟨gas - (l.length+1),by have:=gas_lt (n:=l.length+1) (by omega);omega⟩
 rw [Ci,Lu,Q7 hb,Option.bind_some,hm]
 exact key l.length 0 m b (by omega) hb
theorem TAE {d:SDisk} (h0:d.fFiles.length≤140737488351232):Gi d=some (FN d):=by
 rw [Gi,Ou,FN]
 have key:∀ (j i m:Nat),i+j=d.fFiles.length→Ei (m+j+1) (.c0 d.fFiles (d.fFiles.length:Int) (i:Int) d)=some (decide ((d.fFiles.length:Int)≤30) && PY (QZ d.fFiles i) (d.fFiles.drop i)):=by
  intro j
  induction j with
  | zero=>
   intro i m h
   obtain rfl:i=d.fFiles.length:=by omega
   rw [Ei]
   simp only [Vm]
   rw [cond_f (by simp),List.drop_length,PY,Bool.and_true]
  | succ j ih=>
   intro i m h
   have hi:i<d.fFiles.length:=by omega
   have e:w64 ((i:Int)+1)=((i+1:Nat):Int):=by rw [w64_id (by omega) (by omega)];rfl
   have h2:=ih (i+1) m (by omega)
   have fls:∀ b:Bool,(b && false)=false:=fun b=>by cases b <;> rfl
   rw [show m+(j+1)+1=(m+j+1)+1 by omega,Ei]
   simp only [Vm,e,Int.toNat_natCast,getD_at hi,p_impl_in,Option.bind_some]
   rw [cond_t (by simp;omega),cond_t (by simp;omega),V7 hi,QY,h2]
   cases hn:inR (d.fFiles[i].fName.size:Int) 1 8
   ·rw [Bool.false_and,Bool.false_and,fls];rfl
   cases decide ((d.fFiles[i].fText.size:Int) > 20000)
   ·cases inR d.fFiles[i].fKept 0 (d.fFiles[i].fText.size:Int)
    ·simp only [Bool.and_false,Bool.false_and];rfl
    ·by_cases hz:i=0
     ·subst hz
      rw [inR_iff] at hn
      rw [show QZ d.fFiles 0=⟨#[]⟩ from rfl,Dn (by omega)];rfl
     ·obtain ⟨i',rfl⟩:∃ q,i=q+1:=⟨i - 1,by omega⟩
      have e2:w64 (((i'+1:Nat):Int) - 1)=(i':Int):=by rw [w64_id (by omega) (by omega)];omega
      rw [e2,Int.toNat_natCast,getD_at (show i'<d.fFiles.length by omega),Yu (i:=i') (by omega),cond_f (by rfl),cond_f (by rfl),cond_f (by rfl),cond_t (by simp;try omega),cond_t (by simp;try omega)]
      cases Op.bytesLess d.fFiles[i'].fName.toList d.fFiles[i'+1].fName.toList
      ·simp only [Bool.and_false,Bool.false_and];rfl
      ·rfl
   ·simp only [Bool.and_false,Bool.false_and,Bool.not_true];rfl
 obtain ⟨m,hm⟩:∃ m,gas=m+d.fFiles.length+1:=⟨gas - (d.fFiles.length+1),by have:=gas_lt (n:=d.fFiles.length+1) (by omega);omega⟩
 rw [hm]
 exact key d.fFiles.length 0 m (by omega)
theorem UAE {file:ByteArray} {a:Nat} (hs:file.size≤140737488351232) (ha:a≤file.size) {p:ByteArray×Nat} (h:nextF file a=some p):p.2=a+(frameT p.1).1.size∧p.2≤file.size:=by
 rcases nextF_x hs ha with h1 | ⟨v,q,_,hq,hq2,hv1,hv2,h3,_,_,h1⟩
 ·rw [h1] at h;cases h
 ·rw [h1] at h
  cases h
  have hz:(file.extract (q+4) (q+4+v.toNat)).size=v.toNat:=by rw [ByteArray.size_extract];omega
  have hin:inR ((file.extract (q+4) (q+4+v.toNat)).size:Int) 1 9000=true:=by rw [hz,inR_iff];omega
  refine ⟨?_,h3⟩
  show q+4+v.toNat=a+(frameT (file.extract (q+4) (q+4+v.toNat))).1.size
  rw [frameT,hin,cond_true,ofBytes_size,frameL,List.length_append,List.length_append,bs_len,hz,show ((v.toNat:Nat):Int)=v by omega]
  have:(four (sumL (bs (file.extract (q+4) (q+4+v.toNat))))).length=4:=rfl
  omega
theorem VAE (k:ByteArray) {file:ByteArray} (hs:file.size≤140737488351232):∀ (j a:Nat) (i:Int),a≤file.size→0≤(rdBook k i (unf j file a).1).2∧(a:Int)+(rdBook k i (unf j file a).1).2≤(file.size:Int):=by
 intro j
 induction j with
 | zero=>intro a i ha;exact ⟨Int.le_refl 0,by show (a:Int)+0≤_;omega⟩
 | succ j ih=>
  intro a i ha
  rw [unf]
  cases h:nextF file a with
  | none=>exact ⟨Int.le_refl 0,by show (a:Int)+0≤_;omega⟩
  | some p=>
   obtain ⟨h1,h2⟩:=UAE hs ha h
   obtain ⟨h3,h4⟩:=ih p.2 (i+1) h2
   simp only [rdBook]
   cases (openT k i p.1).2 && (rdRec (openT k i p.1).1).2
   ·exact ⟨Int.le_refl 0,by show (a:Int)+0≤_;omega⟩
   ·rw [cond_true]
    exact ⟨by simp only;omega,by simp only;omega⟩
theorem WAE (k file:ByteArray):0≤(readBook k file).2∧(readBook k file).2≤(file.size:Int):=by
 rw [readBook,unfT]
 by_cases h:(file.size:Int) > 20000
 ·rw [decide_eq_true h];exact ⟨Int.le_refl 0,by show (0:Int)≤_;omega⟩
 ·rw [decide_eq_false h,cond_false]
  have h2:=VAE k (file:=file) (by omega) (file.size+1) 0 1 (Nat.zero_le _)
  exact ⟨h2.1,by have:=h2.2;show (rdBook k 1 (unf (file.size+1) file 0).1).2≤_;omega⟩
theorem X7 {d:SDisk} {n:ByteArray} {B:Nat} (hf:∀ f ∈ d.fFiles,f.fText.size≤B):(NM d n).1.size≤B:=by
 rw [NM]
 cases h:IK d.fFiles n 0 with
 | none=>exact Nat.zero_le _
 | some j=>
  have h1:=(Mc h).2
  show ((d.fFiles.getD j JZ).fText).size≤B
  rw [getD_at (by omega)]
  exact hf _ (List.getElem_mem _)
def TB:ByteArray:=⟨#[98,111,111,107]⟩
def nNew:ByteArray:=⟨#[98,111,111,107,43]⟩
noncomputable def VY (k:ByteArray) (d:SDisk):SBook×List SAct×Bool:=
 bif !(FN d) || !(enterAllB bookNew (readBook k (NM d TB).1).1).2 then (zBook,[],false)
 else ((enterAllB bookNew (readBook k (NM d TB).1).1).1,(bif decide (RY d nNew≥0) then [⟨4,nNew,⟨#[]⟩,⟨#[]⟩⟩] else [])++(bif (readBook k (NM d TB).1).2 == ((NM d TB).1.size:Int) then [] else [⟨1,nNew,(NM d TB).1.extract 0 (readBook k (NM d TB).1).2.toNat,⟨#[]⟩⟩,⟨2,nNew,⟨#[]⟩,⟨#[]⟩⟩,⟨3,nNew,⟨#[]⟩,TB⟩]),true)
theorem XAE (k:ByteArray):∀ (fs:List ByteArray) (i:Int),(∀ f ∈ fs,f.size≤20000)→∀ r ∈ (rdBook k i fs).1,r.fNum≤9223372036854775807:=by
 intro fs
 induction fs with
 | nil=>intro i _ r hr;cases hr
 | cons f fs ih=>
  intro i hf r hr
  rw [rdBook] at hr
  cases h:(openT k i f).2 && (rdRec (openT k i f).1).2
  ·rw [h] at hr;cases hr
  ·rw [h,cond_true] at hr
   rcases List.mem_cons.1 hr with rfl | hr
   ·have hz:=openT_size k f i
    have hfz:=hf f (List.mem_cons_self ..)
    rcases rdRec_reads (t:=(openT k i f).1) (by omega) with ⟨_,h2⟩ | h2
    ·have h3:(recText (rdRec (openT k i f).1).1).2=true:=by rw [h2]
     rcases recText_cases h3 with ⟨hk,_⟩ | ⟨hk,hc⟩ | ⟨hk,_⟩ | ⟨hk,hc⟩
     ·rw [recText,hk] at h3
      simp only [show ((1:Int) == 1)=true from rfl,cond_true] at h3
      cases hc:(((rdRec (openT k i f).1).1.fText.size:Int) == 32 && (rdRec (openT k i f).1).1.fNum == 0 && isZ (rdRec (openT k i f).1).1.fThing)
      ·rw [hc] at h3;cases h3
      ·rw [Bool.and_eq_true,Bool.and_eq_true,beq_iff_eq,beq_iff_eq] at hc;omega
     ·omega
     ·rw [recText,hk] at h3
      simp only [show ((3:Int) == 1)=false from rfl,show ((3:Int) == 2)=false from rfl,show ((3:Int) == 3)=true from rfl,cond_true,cond_false] at h3
      cases hc:((thingText (rdRec (openT k i f).1).1.fThing).2 && isE (rdRec (openT k i f).1).1.fText && (rdRec (openT k i f).1).1.fNum == 0)
      ·rw [hc] at h3;cases h3
      ·rw [Bool.and_eq_true,beq_iff_eq] at hc;omega
     ·omega
    ·rw [h2];exact (by decide:(0:Int)≤9223372036854775807)
   ·exact ih (i+1) (fun f hf2=>hf f (List.mem_cons_of_mem _ hf2)) r hr
theorem YAE (k file:ByteArray):∀ r ∈ (readBook k file).1,r.fNum≤9223372036854775807:=XAE k _ _ (unfT_small (file:=file)).1
theorem ZAE (k file:ByteArray):(readBook k file).1.length≤20000:=Nat.le_trans (rdBook_len k _ _) (unfT_small (file:=file)).2.1
theorem AAF {k:ByteArray} {d:SDisk} (hk:k.size≤900000000) (hd:d.fFiles.length≤140737488351232) (hf:∀ f ∈ d.fFiles,f.fText.size≤140737488351232):RZ k d=some (VY k d):=by
 have hfs:(NM d TB).1.size≤140737488351232:=X7 hf
 obtain ⟨r1,r2⟩:=WAE k (NM d TB).1
 have hl:=ZAE k (NM d TB).1
 rw [RZ,Qu,show (⟨#[98,111,111,107]⟩:ByteArray)=TB from rfl,show (⟨#[98,111,111,107,43]⟩:ByteArray)=nNew from rfl,BAF hd,Option.bind_some,p_impl_ReadBook hk hfs,Option.bind_some,MAE,Option.bind_some,SAE (Nat.zero_le _) (by omega) (YAE _ _),Option.bind_some,TAE hd,Option.bind_some,Y7 hd,VY]
 cases FN d
 ·rfl
 cases (enterAllB bookNew (readBook k (NM d TB).1).1).2
 ·rfl
 simp only [Option.bind_some,Bool.not_true,Bool.or_self,cond_false]
 by_cases he:(readBook k (NM d TB).1).2=((NM d TB).1.size:Int)
 ·rw [show ((readBook k (NM d TB).1).2 == ((NM d TB).1.size:Int))=true by rw [beq_iff_eq];exact he]
  cases decide (RY d nNew≥0) <;> rfl
 ·rw [show ((readBook k (NM d TB).1).2 == ((NM d TB).1.size:Int))=false by rw [beq_eq_false_iff_ne];exact he,cond_false,cond_false]
  have hg:(decide (0≤(readBook k (NM d TB).1).2) && decide ((readBook k (NM d TB).1).2≤((NM d TB).1.size:Int)))=true:=by rw [Bool.and_eq_true,decide_eq_true_eq,decide_eq_true_eq];exact ⟨r1,r2⟩
  simp only [hg,cond_true]
  cases decide (RY d nNew≥0) <;> rfl
def Si (x y:SThing):Bool:=(x.fId == y.fId) && ((x.fKind == y.fKind) && ((x.fHidden == y.fHidden) && ((x.fFixed == y.fFixed) && ((x.fSigns == y.fSigns) && ((x.fWraps == y.fWraps) && (((ByteArray.toList x.fValue) == (ByteArray.toList y.fValue)) && ((x.fNext == y.fNext) && true)))))))
theorem CAF (x y:SThing):((x.fId == y.fId) && ((x.fKind == y.fKind) && ((x.fHidden == y.fHidden) && ((x.fFixed == y.fFixed) && ((x.fSigns == y.fSigns) && ((x.fWraps == y.fWraps) && (((ByteArray.toList x.fValue) == (ByteArray.toList y.fValue)) && ((x.fNext == y.fNext) && true))))))))=Si x y:=rfl
theorem DAF {x y:SThing}:Si x y=true↔x=y:=by
 simp only [Si,Bool.and_eq_true,beq_iff_eq]
 constructor
 ·rintro ⟨h1,h2,h3,h4,h5,h6,h7,h8,_⟩
  have h7':x.fValue=y.fValue:=by
   have:=toList_inj (s:=x.fValue) (t:=y.fValue)
   rw [h7] at this
   simpa using this
  cases x;cases y;simp_all
 ·rintro rfl;simp
def ZY:List SThing→List SThing→Bool
 | [],[]=>true
 | x::a,y::b=>Si x y && ZY a b
 | _,_=>false
theorem Zu:∀ {a b:List SThing},ZY a b=true↔a=b
 | [],[]=>by simp [ZY]
 | x::a,y::b=>by simp [ZY,DAF,Zu]
 | [],_::_=>by simp [ZY]
 | _::_,[]=>by simp [ZY]
theorem EAF {a b:List SThing} (h:a.length≠b.length):ZY a b=false:=by
 cases h2:ZY a b
 ·rfl
 ·rw [Zu] at h2;subst h2;exact absurd rfl h
def Cb (a b:SBook):Bool:=(a.fWord.toList == b.fWord.toList) && ((a.fTries == b.fTries) && (ZY a.fThings b.fThings && ((a.fLast == b.fLast) && ((a.fChain.toList == b.fChain.toList) && (a.fCount == b.fCount)))))
theorem Ti {a b:SBook}:Cb a b=true↔a=b:=by
 simp only [Cb,Bool.and_eq_true,toList_inj,decide_eq_true_eq,beq_iff_eq,Zu]
 constructor
 ·rintro ⟨h1,h2,h3,h4,h5,h6⟩
  cases a;cases b;simp_all
 ·rintro rfl;simp
theorem Ui {a b:SBook} (h0:a.fThings.length≤140737488351232):La a b=some (Cb a b):=by
 rw [La,Ru,Cb]
 by_cases hl:a.fThings.length=b.fThings.length
 ·have key:∀ (j i m:Nat),i+j=a.fThings.length→Ji (m+j+1) (.c0 (i:Int) a b)=some (ZY (a.fThings.drop i) (b.fThings.drop i)):=by
   intro j
   induction j with
   | zero=>
    intro i m h
    obtain rfl:i=a.fThings.length:=by omega
    rw [Ji]
    simp only [Xm]
    rw [cond_f (by simp),List.drop_length,hl,List.drop_length];rfl
   | succ j ih=>
    intro i m h
    have hi:i<a.fThings.length:=by omega
    have hi2:i<b.fThings.length:=by omega
    have e:w64 ((i:Int)+1)=((i+1:Nat):Int):=by rw [w64_id (by omega) (by omega)];rfl
    rw [show m+(j+1)+1=(m+j+1)+1 by omega,Ji]
    simp only [Xm,e,Int.toNat_natCast,getD_at hi,getD_at hi2,CAF,ih (i+1) m (by omega)]
    rw [cond_t (by simp;omega),cond_t (by simp;omega),cond_t (by simp;omega),drop_at hi,drop_at hi2,ZY]
    cases Si a.fThings[i] b.fThings[i] <;> rfl
  obtain ⟨m,hm⟩:∃ m,gas=m+a.fThings.length+1:=⟨gas - (a.fThings.length+1),by have:=gas_lt (n:=a.fThings.length+1) (by omega);omega⟩
  have hz:=key a.fThings.length 0 m (by omega)
  rw [List.drop_zero,List.drop_zero,show ((0:Nat):Int)=0 from rfl] at hz
  have h1:((a.fThings.length:Int) != (b.fThings.length:Int))=false:=by rw [bne_eq_false_iff_eq];omega
  rw [h1,hm,hz]
  simp only [bne]
  cases a.fWord.toList == b.fWord.toList <;> cases a.fTries == b.fTries <;> cases ZY a.fThings b.fThings <;> cases a.fLast == b.fLast <;> cases a.fChain.toList == b.fChain.toList <;> cases a.fCount == b.fCount <;> rfl
 ·have h1:((a.fThings.length:Int) != (b.fThings.length:Int))=true:=by rw [bne_iff_ne];omega
  rw [h1,EAF hl]
  simp only [bne]
  cases a.fWord.toList == b.fWord.toList <;> cases a.fTries == b.fTries <;> cases a.fLast == b.fLast <;> cases a.fChain.toList == b.fChain.toList <;> cases a.fCount == b.fCount <;> rfl
theorem FAF {k s:ByteArray} {num:Int} (hk:k.size≤900000000) (hs:s.size≤800000000):Oi k num s=some (lockT k num s):=by
 rw [Oi,Vu,p_impl_Mask hk,Option.bind_some,maskT,lockT]
 cases h:maskOk num s.size
 ·rfl
 ·have h':=maskOk_iff.1 h
  have hm:=maskL_len (bs k) (varL num) ((s.size:Int).toNat)
  have hl:=bs_len s
  rw [cond_true,cond_true,cond_f (by rfl),p_impl_both (by omega) (by rw [ofBytes_size,hm];omega),Option.bind_some,bs_ofBytes (maskL_byt _ _ _)]
  have hx:(xorL (bs s) (maskL (bs k) (varL num) (s.size:Int).toNat)).length=s.size:=by rw [xorL_len (by omega),hl]
  rw [p_impl_tag hk h'.1 (by rw [ofBytes_size,hx];omega),Option.bind_some,bs_ofBytes (xorL_byt _ _),cond_t (by rw [ofBytes_size,ofBytes_size,hx,tagL_len,decide_eq_true_eq];omega)]
  refine congrArg (fun x=>some (x,true)) (bs_inj ?_)
  rw [bs_append,bs_ofBytes (xorL_byt _ _),bs_ofBytes (tagL_byt _ _ _),bs_ofBytes (fun x hx=>by
   rcases List.mem_append.1 hx with hx | hx
   ·exact xorL_byt _ _ x hx
   ·exact tagL_byt _ _ _ x hx),sealL,hl]
  rfl
theorem GAF {k:ByteArray} {count:Int} {r:SRec} (hk:k.size≤900000000) (hr:r.fNum≤9223372036854775807):Na k count r=some (bookActs k count r):=by
 have hz:=recText_size r
 rw [Na,Wu,p_impl_RecText hr,Option.bind_some,bookActs]
 cases h1:(recText r).2
 ·rfl
 rw [cond_f (by rfl),p_impl_in,Option.bind_some,Bool.true_and]
 cases h2:inR count 0 10000
 ·rfl
 rw [inR_iff] at h2
 obtain ⟨l1,l2,l3⟩:=lock_ok (k:=k) (s:=(recText r).1) (num:=count+1) (by omega) (by omega)
 obtain ⟨f1,f2⟩:=frame_ok (t:=(lockT k (count+1) (recText r).1).1) (by omega)
 rw [cond_f (by rfl),w64_id (by omega) (by omega),FAF hk (by omega),Option.bind_some,p_impl_Frame (by omega),Option.bind_some,l1,f1]
 rfl
theorem HAF {b:SBook} {l:List SRec} (hb:b.fThings.length≤2932031007317) (hl:l.length≤140737488351232):Oa b l=some (enterAllB b l):=by
 have key:∀ (j i m:Nat) (b:SBook),i+j=l.length→b.fThings.length≤2932031007317→Ri (m+j+1) (.c0 l (i:Int) ⟨#[]⟩ 0 0 ⟨#[]⟩ 0 b.fWord b.fTries b.fLast b.fChain b.fCount [] b.fThings)=some (enterAllB b (l.drop i)):=by
  intro j
  induction j with
  | zero=>
   intro i m b h hb
   obtain rfl:i=l.length:=by omega
   rw [Ri]
   simp only [Ym]
   rw [cond_f (by simp),List.drop_length];rfl
  | succ j ih=>
   intro i m b h hb
   have hi:i<l.length:=by omega
   have e:w64 ((i:Int)+1)=((i+1:Nat):Int):=by rw [w64_id (by omega) (by omega)];rfl
   rw [show m+(j+1)+1=(m+j+1)+1 by omega,Ri]
   simp only [Ym,e,Int.toNat_natCast,getD_at hi]
   rw [cond_t (by simp;omega),cond_t (by simp;omega),p_spec_Enter (by show b.fThings.length≤_;omega),Option.bind_some,drop_at hi,enterAllB]
   cases h2:(enterB b l[i]).2
   ·rfl
   ·have h3:=enterB_len h2
    rw [cond_f (by rfl),cond_true]
    exact ih (i+1) m (enterB b l[i]).1 (by omega) (by omega)
 obtain ⟨m,hm⟩:∃ m,gas=m+l.length+1:=⟨gas - (l.length+1),by have:=gas_lt (n:=l.length+1) (by omega);omega⟩
 rw [Oa,Xu,p_spec_l21Copy hb,Option.bind_some,hm]
 exact key l.length 0 m b (by omega) hb
def frs:List ByteArray→List Int
 | []=>[]
 | t::ts=>frameL (bs t)++frs ts
def whole:List ByteArray→Nat→Nat
 | [],_=>0
 | t::ts,K=>if (frameL (bs t)).length≤K then whole ts (K - (frameL (bs t)).length)+1 else 0
theorem frameL_len (l:List Int):(frameL l).length=(varL (l.length:Int)).length+4+l.length:=by
 have h4:(four (sumL l)).length=4:=rfl
 rw [frameL,List.length_append,List.length_append,h4];omega
theorem frs_byt:∀ ts:List ByteArray,Byt (frs ts)
 | []=>fun n hn=>by cases hn
 | t::ts=>fun n hn=>by
  rcases List.mem_append.1 hn with hn | hn
  ·exact frameL_byt (byt_bs t) n hn
  ·exact frs_byt ts n hn
theorem frs_app (ts us:List ByteArray):frs (ts++us)=frs ts++frs us:=by
 induction ts with
 | nil=>rfl
 | cons t ts ih=>rw [List.cons_append,frs,frs,ih,List.append_assoc]
theorem whole_le (ts:List ByteArray):∀ K,whole ts K≤K∧whole ts K≤ts.length∧(frs (ts.take (whole ts K))).length≤K:=by
 induction ts with
 | nil=>intro K;exact ⟨Nat.zero_le _,Nat.zero_le _,Nat.zero_le _⟩
 | cons t ts ih=>
  intro K
  rw [whole]
  split
  ·rename_i h
   obtain ⟨i1,i2,i3⟩:=ih (K - (frameL (bs t)).length)
   have:=frameL_len (bs t)
   rw [List.take_succ_cons,frs,List.length_append,List.length_cons]
   omega
  ·exact ⟨Nat.zero_le _,Nat.zero_le _,Nat.zero_le _⟩
theorem whole_all (ts:List ByteArray):∀ K,(frs ts).length≤K→whole ts K=ts.length:=by
 induction ts with
 | nil=>intro K _;rfl
 | cons t ts ih=>
  intro K h
  rw [frs,List.length_append] at h
  rw [whole,if_pos (by omega),ih _ (by omega),List.length_cons]
theorem next_whole {file l:ByteArray} {a:Nat} (hs:file.size≤140737488351232) (h1:1≤l.size) (h2:l.size≤9000) (hA:At file a (frameL (bs l))):nextF file a=some (l,a+(frameL (bs l)).length):=by
 have hA':At file a (varL (l.size:Int)++(four (sumL (bs l))++bs l)):=by rw [frameL,bs_len] at hA;exact hA
 have e1:=rdVar_is hs (by omega) (by omega) hA'.left
 have hB:=hA'.right
 have hC:=hB.right
 have h4:(four (sumL (bs l))).length=4:=rfl
 have hx4:=hB.left.extract (four_byt (sumL_r (bs l)))
 have hxl:=hC.extract (byt_bs l)
 rw [h4] at hx4 hxl hC
 rw [bs_len,ofBytes_bs] at hxl
 have hz:a+(varL (l.size:Int)).length+4+l.size≤file.size:=by
  rcases hC.size with h | h
  ·have:=congrArg List.length h;rw [bs_len,List.length_nil] at this;omega
  ·rw [bs_len] at h;exact h
 have hlen:=frameL_len (bs l)
 rw [bs_len] at hlen
 rw [nextF,e1,hlen]
 generalize (varL (l.size:Int)).length=n at hx4 hxl hz
 dsimp only
 have t0:((a+n:Nat):Int).toNat=a+n:=Int.toNat_natCast _
 have t1:(((a+n:Nat):Int)+4).toNat=a+n+4:=by omega
 have t2:(((a+n:Nat):Int)+4+(l.size:Int)).toNat=a+n+4+l.size:=by omega
 rw [t0,t1,t2,hx4,hxl,bs_ofBytes (four_byt (sumL_r (bs l))),beq_self_eq_true,inR_iff.2 (show 1≤(l.size:Int)∧(l.size:Int)≤9000 by omega),show decide ((l.size:Int)≤(file.size:Int) - ((a+n:Nat):Int) - 4)=true from decide_eq_true (by omega)]
 show some (l,a+n+4+l.size)=_
 rw [show a+n+4+l.size=a+(n+4+l.size) by omega]
theorem next_part {file l:ByteArray} {a:Nat} {rest:List Int} (hs:file.size≤140737488000000) (ha:a≤file.size) (h2:l.size≤9000) (hr:0<rest.length) (hrb:Byt rest) (hA:(bs file).drop a++rest=frameL (bs l)):nextF file a=none:=by
 rcases nextF_x (file:=file) (a:=a) (by omega) ha with h | ⟨v,q,_,hq,hq2,hv1,hv2,h3,hAv,_,_⟩
 ·exact h
 ·exfalso
  have hl:=frameL_len (bs l)
  rw [bs_len] at hl
  have hv10:=varL_len10 (n:=(l.size:Int)) (by omega)
  have hlen:=congrArg List.length hA
  rw [List.length_append,List.length_drop,bs_len] at hlen
  have hb:bs (file++ofBytes rest)=bs file++rest:=by rw [bs_append,bs_ofBytes hrb]
  have hd:(bs (file++ofBytes rest)).drop a=frameL (bs l):=by rw [hb,List.drop_append_of_le_length (by rw [bs_len];exact ha),hA]
  have hz:(file++ofBytes rest).size=file.size+rest.length:=by rw [ByteArray.size_append,ofBytes_size]
  have e1:=rdVar_is (text:=file++ofBytes rest) (a:=a) (V:=(l.size:Int)) (by omega) (by omega) (by omega) ⟨four (sumL (bs l))++bs l,by rw [hd,frameL,bs_len]⟩
  obtain ⟨x,hx⟩:=hAv
  have e2:=rdVar_is (text:=file++ofBytes rest) (a:=a) (V:=v) (by omega) (by omega) (by omega) ⟨x++rest,by rw [hb,List.drop_append_of_le_length (by rw [bs_len];exact ha),hx,List.append_assoc]⟩
  rw [e1] at e2
  have e3:(l.size:Int)=v:=congrArg Prod.fst e2
  subst e3
  omega
theorem unf_frs {file:ByteArray} (hs:file.size≤140737488000000):∀ (ts:List ByteArray) (K m a:Nat),(∀ t ∈ ts,1≤t.size∧t.size≤9000)→a≤file.size→(bs file).drop a=(frs ts).take K→whole ts K<m→unf m file a=(ts.take (whole ts K),a+(frs (ts.take (whole ts K))).length):=by
 intro ts
 induction ts with
 | nil=>
  intro K m a _ ha hd hm
  obtain ⟨m,rfl⟩:∃ n,m=n+1:=⟨m - 1,by omega⟩
  have hlen:=congrArg List.length hd
  rw [List.length_drop,bs_len,frs,List.take_nil,List.length_nil] at hlen
  rw [unf]
  rcases nextF_x (file:=file) (a:=a) (by omega) ha with h | ⟨v,q,_,hq,_,_,_,h3,_⟩
  ·rw [h];rfl
  ·omega
 | cons t ts ih=>
  intro K m a ht ha hd hm
  obtain ⟨m,rfl⟩:∃ n,m=n+1:=⟨m - 1,by omega⟩
  have ht0:=ht t (List.mem_cons_self ..)
  rw [whole] at hm ⊢
  rw [frs,List.take_append] at hd
  split at hm
  ·rename_i h
   rw [if_pos h]
   rw [List.take_of_length_le h] at hd
   have hA:At file a (frameL (bs t)):=⟨_,hd⟩
   have hz:a+(frameL (bs t)).length≤file.size:=by
    rcases hA.size with h | h
    ·have:=congrArg List.length h;rw [frameL_len,List.length_nil] at this;omega
    ·exact h
   rw [unf,next_whole (by omega) ht0.1 ht0.2 hA]
   have hd2:(bs file).drop (a+(frameL (bs t)).length)=(frs ts).take (K - (frameL (bs t)).length):=by
    rw [←List.drop_drop,hd,List.drop_left]
   dsimp only
   rw [ih _ m _ (fun x hx=>ht x (List.mem_cons_of_mem _ hx)) hz hd2 (by omega),List.take_succ_cons,frs,List.length_append]
   rw [Nat.add_assoc]
  ·rename_i h
   rw [if_neg h]
   rw [show K - (frameL (bs t)).length=0 by omega,List.take_zero,List.append_nil] at hd
   rw [unf,next_part (file:=file) (l:=t) (rest:=(frameL (bs t)).drop K) hs ha ht0.2 (by rw [List.length_drop];omega) (fun n hn=>frameL_byt (byt_bs t) n (List.mem_of_mem_drop hn)) (by rw [hd,List.take_append_drop])]
   rfl
theorem sealL_len (k:List Int) (num:Int) (s:List Int):(sealL k num s).length=s.length+16:=by rw [sealL,List.length_append,xorL_len (by rw [maskL_len];omega),tagL_len]
theorem sealL_byt (k:List Int) (num:Int) (s:List Int):Byt (sealL k num s):=fun x hx=>by
 rcases List.mem_append.1 hx with hx | hx
 ·exact xorL_byt _ _ x hx
 ·exact tagL_byt _ _ _ x hx
theorem lockT_size (k s:ByteArray) (num:Int):(lockT k num s).1.size≤s.size+16:=by
 rw [lockT]
 cases maskOk num s.size
 ·exact Nat.zero_le _
 ·show (ofBytes (sealL (bs k) num (bs s))).size≤_
  rw [ofBytes_size,sealL_len,bs_len];omega
theorem open_lock {k s:ByteArray} {num:Int} (h:(lockT k num s).2=true):openT k num (lockT k num s).1=(s,true)∧(lockT k num s).1.size=s.size+16:=by
 rw [lockT] at h ⊢
 cases hm:maskOk num s.size
 ·rw [hm] at h;cases h
 ·rw [cond_true]
  exact ⟨by show openT k num (ofBytes (sealL (bs k) num (bs s)))=_;rw [open_seal (byt_bs s) (by rw [bs_len];exact hm),ofBytes_bs],by show (ofBytes (sealL (bs k) num (bs s))).size=_;rw [ofBytes_size,sealL_len,bs_len]⟩
theorem lock_open {k t:ByteArray} {num:Int} (h:(openT k num t).2=true):lockT k num (openT k num t).1=(t,true):=by
 obtain ⟨h1,h2,h3,h4,h5⟩:=openT_true h
 have hl:((bs t).take (t.size - 16)).length=t.size - 16:=by rw [List.length_take,bs_len];omega
 have hx:(openT k num t).1.size=t.size - 16:=by rw [←bs_len,h4,xorL_len (by rw [maskL_len];omega),hl]
 rw [lockT,hx,show ((t.size - 16:Nat):Int)=(t.size:Int) - 16 by omega,h2,cond_true,seal_open h,ofBytes_bs]
def tx (k:ByteArray):Int→List SRec→List ByteArray
 | _,[]=>[]
 | i,r::rs=>(lockT k i (recText r).1).1::tx k (i+1) rs
theorem tx_len (k:ByteArray):∀ (l:List SRec) (i:Int),(tx k i l).length=l.length
 | [],_=>rfl
 | r::rs,i=>by rw [tx,List.length_cons,List.length_cons,tx_len k rs]
theorem tx_take (k:ByteArray):∀ (l:List SRec) (i:Int) (w:Nat),(tx k i l).take w=tx k i (l.take w)
 | [],_,w=>by rw [tx,List.take_nil,List.take_nil,tx]
 | r::rs,i,0=>rfl
 | r::rs,i,w+1=>by rw [tx,List.take_succ_cons,List.take_succ_cons,tx,tx_take k rs]
theorem tx_app (k:ByteArray):∀ (l q:List SRec) (i:Int),tx k i (l++q)=tx k i l++tx k (i+l.length) q
 | [],q,i=>by rw [List.nil_append,tx,List.nil_append,List.length_nil];simp
 | r::rs,q,i=>by
  rw [List.cons_append,tx,tx,tx_app k rs,List.length_cons,List.cons_append]
  rw [show i+1+(rs.length:Int)=i+((rs.length+1:Nat):Int) by omega]
def Sound (l:List SRec):Prop:=∀ r ∈ l,(recText r).2=true
theorem tx_size (k:ByteArray):∀ (l:List SRec) (i:Int),0≤i→i+l.length≤1000000000→∀ t ∈ tx k i l,1≤t.size∧t.size≤320
 | [],_,_,_,t,ht=>by cases ht
 | r::rs,i,h0,h1,t,ht=>by
  rw [List.length_cons] at h1
  rw [tx] at ht
  rcases List.mem_cons.1 ht with rfl | ht
  ·have:=(lock_ok (k:=k) (s:=(recText r).1) (num:=i) (by omega) (by have:=recText_size r;omega)).2.2
   have:=recText_size r
   omega
  ·exact tx_size k rs (i+1) (by omega) (by omega) t ht
theorem rdRec_is {r:SRec} (h:(recText r).2=true):rdRec (recText r).1=(r,true):=by
 have:=recText_size r
 rw [rdRec,p_spec_ReadRec_is (text:=(recText r).1) (x:=r) (by omega) (Prod.ext rfl h)];rfl
theorem rdBook_tx (k:ByteArray):∀ (l:List SRec) (i:Int),0≤i→i+l.length≤1000000000→Sound l→rdBook k i (tx k i l)=(l,((frs (tx k i l)).length:Int))
 | [],_,_,_,_=>rfl
 | r::rs,i,h0,h1,hs=>by
  rw [List.length_cons] at h1
  have hz:=recText_size r
  obtain ⟨l1,l2,l3⟩:=lock_ok (k:=k) (s:=(recText r).1) (num:=i) (by omega) (by omega)
  obtain ⟨f1,f2⟩:=frame_ok (t:=(lockT k i (recText r).1).1) (by omega)
  rw [tx,rdBook,(open_lock l1).1]
  dsimp only
  rw [rdRec_is (hs r (List.mem_cons_self ..)),rdBook_tx k rs (i+1) (by omega) (by omega) (fun x hx=>hs x (List.mem_cons_of_mem _ hx)),f2,ofBytes_size,frs,List.length_append]
  show (r::rs,_)=_
  refine congrArg (fun n=>(r::rs,n)) ?_
  show ((frameL _).length:Int)+((frs _).length:Int)=_
  omega
theorem frs_small (k:ByteArray) (ts:List ByteArray) (h:∀ t ∈ ts,1≤t.size∧t.size≤320):(frs ts).length≤334*ts.length:=by
 induction ts with
 | nil=>exact Nat.le_refl 0
 | cons t ts ih=>
  have h1:=ih fun x hx=>h x (List.mem_cons_of_mem _ hx)
  have h2:=h t (List.mem_cons_self ..)
  have h3:=frameL_len (bs t)
  rw [bs_len] at h3
  have h4:=varL_len10 (n:=(t.size:Int)) (by omega)
  rw [frs,List.length_append,List.length_cons];omega
theorem readBook_cut {k file:ByteArray} {l:List SRec} {K:Nat} (hl:l.length≤12) (hs:Sound l) (hK:K≤(frs (tx k 1 l)).length) (hf:bs file=(frs (tx k 1 l)).take K):readBook k file=(l.take (whole (tx k 1 l) K),((frs (tx k 1 (l.take (whole (tx k 1 l) K)))).length:Int)):=by
 have hsz:=tx_size k l 1 (by omega) (by omega)
 have hsm:=frs_small k _ hsz
 rw [tx_len] at hsm
 have hlen:file.size=K:=by rw [←bs_len,hf,List.length_take];omega
 obtain ⟨w1,w2,w3⟩:=whole_le (tx k 1 l) K
 have hu:=unf_frs (file:=file) (by omega) (tx k 1 l) K (file.size+1) 0 (fun t ht=>by have:=hsz t ht;omega) (Nat.zero_le _) (by rw [List.drop_zero];exact hf) (by omega)
 rw [readBook,unfT,show decide ((file.size:Int) > 20000)=false from decide_eq_false (by omega),cond_false,hu]
 dsimp only
 rw [tx_take]
 exact rdBook_tx k _ 1 (by omega) (by rw [List.length_take];omega) (fun r hr=>hs r (List.mem_of_mem_take hr))
def dk (F:ByteArray) (n:Int):SDisk:=⟨[⟨TB,F,n⟩]⟩
theorem Z7 (G:ByteArray):(⟨#[]⟩:ByteArray)++G=G:=bs_inj (by rw [bs_append,bs_nil,List.nil_append])
theorem Nc:(TB.toList == nNew.toList)=false:=by
 rw [toList_inj]
 exact decide_eq_false fun h=>absurd (congrArg ByteArray.size h) (by decide)
theorem Bv:Op.bytesLess TB.toList nNew.toList=true:=by rw [ByteArray.toList_eq,ByteArray.toList_eq];rfl
theorem Wi {f:SFile} {fs:List SFile} {n:ByteArray} {i:Nat} (h:(f.fName.toList == n.toList)=true):IK (f::fs) n i=some i:=by rw [IK,if_pos h]
theorem En {f:SFile} {fs:List SFile} {n:ByteArray} {i:Nat} (h:(f.fName.toList == n.toList)=false):IK (f::fs) n i=IK fs n (i+1):=by rw [IK,h];rfl
theorem Dv {N F:ByteArray} {n:Int} (hN:1≤N.size∧N.size≤8) (h:0≤n∧n≤(F.size:Int)) (hF:F.size≤20000):QY ⟨N,F,n⟩=true:=A8.2 ⟨⟨by show 1≤(N.size:Int);omega,by show (N.size:Int)≤8;omega⟩,by show (F.size:Int)≤20000;omega,h.1,h.2⟩
theorem KZ {F:ByteArray} {n:Int} (h:0≤n∧n≤(F.size:Int)) (hF:F.size≤20000):FN (dk F n)=true:=by
 rw [dk,FN,PY,PY,Dv (by decide) h hF,Dn (s:=TB) (by decide)];rfl
theorem Gn {F G:ByteArray} {n m:Int} (h:0≤n∧n≤(F.size:Int)) (hF:F.size≤20000) (h2:0≤m∧m≤(G.size:Int)) (hG:G.size≤20000):FN ⟨[⟨TB,F,n⟩,⟨nNew,G,m⟩]⟩=true:=by
 rw [FN,PY,PY,PY,Dv (by decide) h hF,Dv (by decide) h2 hG,Dn (s:=TB) (by decide),Bv];rfl
theorem Fv (F F':ByteArray) (n n':Int):SN [⟨TB,F,n⟩] ⟨TB,F',n'⟩=[⟨TB,F',n'⟩]:=by
 simp [SN,SY,LY,Pn]
theorem IAF (F G:ByteArray) (n m:Int):SN [⟨TB,F,n⟩] ⟨nNew,G,m⟩=[⟨TB,F,n⟩,⟨nNew,G,m⟩]:=by
 simp [SN,SY,LY,Bv]
theorem JAF (F G G':ByteArray) (n m m':Int):SN [⟨TB,F,n⟩,⟨nNew,G,m⟩] ⟨nNew,G',m'⟩=[⟨TB,F,n⟩,⟨nNew,G',m'⟩]:=by
 simp [SN,SY,LY,Bv,Pn]
theorem KAF (F G:ByteArray) (n m:Int):TT [⟨TB,F,n⟩,⟨nNew,G,m⟩] nNew=[⟨TB,F,n⟩]:=by
 simp [TT,Nc]
theorem Oc {l:List SFile} (h:FN ⟨l⟩=true):doneD l=(⟨l⟩,true):=by rw [doneD,h];rfl
theorem D8 {T:ByteArray} (hT:T.size≤20000):JY ⟨[]⟩ ⟨1,TB,T,⟨#[]⟩⟩=(dk T 0,true):=by
 simp only [JY,show FN ⟨[]⟩=true from rfl,toList_self,Bool.or_true,beq_self_eq_true,Bool.true_or,Bool.and_self,cond_true,IK,Z7]
 rw [show SN [] (⟨TB,T,0⟩:SFile)=[⟨TB,T,0⟩] from rfl,Oc (KZ (by omega) hT)];rfl
theorem E8 {F T:ByteArray} {n:Int} (h:0≤n∧n≤(F.size:Int)) (hF:(F++T).size≤20000):JY (dk F n) ⟨1,TB,T,⟨#[]⟩⟩=(dk (F++T) n,true):=by
 have hz:(F++T).size=F.size+T.size:=ByteArray.size_append
 have hp:IK (dk F n).fFiles TB 0=some 0:=Wi (toList_self _)
 simp only [JY,KZ h (show F.size≤20000 by omega),toList_self,Bool.or_true,beq_self_eq_true,Bool.true_or,Bool.and_self,cond_true,hp]
 show doneD (SN [⟨TB,F,n⟩] ⟨TB,F++T,n⟩)=_
 rw [Fv,Oc (KZ (by omega) hF)];rfl
theorem F8 {F:ByteArray} {n:Int} (h:0≤n∧n≤(F.size:Int)) (hF:F.size≤20000):JY (dk F n) ⟨2,TB,⟨#[]⟩,⟨#[]⟩⟩=(dk F F.size,true):=by
 have hp:IK (dk F n).fFiles TB 0=some 0:=Wi (toList_self _)
 simp only [JY,KZ h hF,toList_self,Bool.or_true,beq_self_eq_true,Bool.true_or,Bool.and_self,cond_true,hp]
 show doneD (SN [⟨TB,F,n⟩] ⟨TB,F,(F.size:Int)⟩)=_
 rw [Fv,Oc (KZ (by omega) hF)];rfl
def KY (T:ByteArray):List SAct:=[⟨1,TB,T,⟨#[]⟩⟩,⟨2,TB,⟨#[]⟩,⟨#[]⟩⟩]
theorem G8 {T:ByteArray} (hT:T.size≤20000):CV ⟨[]⟩ (KY T) 0=(dk T T.size,2):=by
 rw [KY,CV,D8 hT,CV,F8 (by omega) hT];rfl
theorem H8 {F T:ByteArray} {n:Int} (h:0≤n∧n≤(F.size:Int)) (hF:(F++T).size≤20000):CV (dk F n) (KY T) 0=(dk (F++T) (F++T).size,2):=by
 have hz:(F++T).size=F.size+T.size:=ByteArray.size_append
 rw [KY,CV,E8 h hF,CV,F8 (by omega) hF];rfl
def Xi (G:ByteArray):List SAct:=[⟨1,nNew,G,⟨#[]⟩⟩,⟨2,nNew,⟨#[]⟩,⟨#[]⟩⟩,⟨3,nNew,⟨#[]⟩,TB⟩]
theorem LAF {F G:ByteArray} {n:Int} (h:0≤n∧n≤(F.size:Int)) (hF:F.size≤20000) (hG:G.size≤20000):JY (dk F n) ⟨1,nNew,G,⟨#[]⟩⟩=(⟨[⟨TB,F,n⟩,⟨nNew,G,0⟩]⟩,true):=by
 have hp:IK (dk F n).fFiles nNew 0=none:=En Nc
 simp only [JY,KZ h hF,toList_self,Bool.or_true,beq_self_eq_true,Bool.true_or,Bool.and_self,cond_true,hp,Z7]
 show doneD (SN [⟨TB,F,n⟩] ⟨nNew,G,0⟩)=_
 rw [IAF,Oc (Gn h hF (by omega) hG)]
theorem MAF {F G:ByteArray} {n:Int} (h:0≤n∧n≤(F.size:Int)) (hF:F.size≤20000) (hG:G.size≤20000):JY ⟨[⟨TB,F,n⟩,⟨nNew,G,0⟩]⟩ ⟨2,nNew,⟨#[]⟩,⟨#[]⟩⟩=(⟨[⟨TB,F,n⟩,⟨nNew,G,(G.size:Int)⟩]⟩,true):=by
 have hp:IK [(⟨TB,F,n⟩:SFile),⟨nNew,G,0⟩] nNew 0=some 1:=by rw [En Nc,Wi (toList_self _)]
 simp only [JY,Gn h hF (m:=0) (G:=G) (by omega) hG,toList_self,Bool.or_true,beq_self_eq_true,Bool.true_or,Bool.and_self,cond_true,hp]
 show doneD (SN [⟨TB,F,n⟩,⟨nNew,G,0⟩] ⟨nNew,G,(G.size:Int)⟩)=_
 rw [JAF,Oc (Gn h hF (by omega) hG)]
theorem NAF {F G:ByteArray} {n:Int} (h:0≤n∧n≤(F.size:Int)) (hF:F.size≤20000) (hG:G.size≤20000):JY ⟨[⟨TB,F,n⟩,⟨nNew,G,(G.size:Int)⟩]⟩ ⟨3,nNew,⟨#[]⟩,TB⟩=(dk G G.size,true):=by
 have hp:IK [(⟨TB,F,n⟩:SFile),⟨nNew,G,(G.size:Int)⟩] nNew 0=some 1:=by rw [En Nc,Wi (toList_self _)]
 simp only [JY,Gn h hF (m:=(G.size:Int)) (G:=G) (by omega) hG,toList_self,Bool.or_true,beq_self_eq_true,Bool.true_or,Bool.and_self,cond_true,hp]
 show (bif decide ((G.size:Int)<(G.size:Int)) || (TB.toList == nNew.toList) then _ else doneD (SN (TT [⟨TB,F,n⟩,⟨nNew,G,(G.size:Int)⟩] nNew) ⟨TB,G,(G.size:Int)⟩))=_
 rw [decide_eq_false (by omega),Nc,Bool.or_self,cond_false,KAF,Fv,Oc (KZ (by omega) hG)];rfl
theorem OAF {F G:ByteArray} {n:Int} (h:0≤n∧n≤(F.size:Int)) (hF:F.size≤20000) (hG:G.size≤20000):CV (dk F n) (Xi G) 0=(dk G G.size,3):=by
 rw [Xi,CV,LAF h hF hG,cond_true,CV,MAF h hF hG,cond_true,CV,NAF h hF hG];rfl
theorem PAF (F:ByteArray) (n:Int):NM (dk F n) TB=(F,true):=by
 rw [NM,show IK (dk F n).fFiles TB 0=some 0 from Wi (toList_self _)];rfl
theorem QAF (F:ByteArray) (n:Int):RY (dk F n) nNew = -1:=by
 rw [RY,show IK (dk F n).fFiles nNew 0=none from En Nc]
theorem Gv {b:SBook} {l:List SRec} (w:Nat) (h:(enterAllB b l).2=true):(enterAllB b (l.take w)).2=true:=by
 have e:=enterAll_app (b:=b) (l:=l.take w) (k:=l.drop w)
 rw [List.take_append_drop] at e
 cases hc:(enterAllB b (l.take w)).2
 ·rw [e,hc] at h;cases h
 ·rfl
theorem I8 {k F:ByteArray} {l:List SRec} {n:Int} {K:Nat} (hl:l.length≤12) (hs:Sound l) (he:(enterAllB bookNew l).2=true) (hK:K≤(frs (tx k 1 l)).length) (hf:bs F=(frs (tx k 1 l)).take K) (hn:0≤n∧n≤(F.size:Int)) (hF:F.size≤20000) :
  VY k (dk F n)=((enterAllB bookNew (l.take (whole (tx k 1 l) K))).1,bif ((frs (tx k 1 (l.take (whole (tx k 1 l) K)))).length:Int) == (F.size:Int) then [] else Xi (F.extract 0 (frs (tx k 1 (l.take (whole (tx k 1 l) K)))).length),true):=by
 rw [VY,KZ hn hF,PAF,readBook_cut hl hs hK hf]
 dsimp only
 rw [Gv _ he,QAF]
 cases ((frs (tx k 1 (l.take (whole (tx k 1 l) K)))).length:Int) == (F.size:Int) <;> rfl
theorem Qn (k:ByteArray):VY k ⟨[]⟩=(bookNew,[],true):=by
 have h:readBook k ⟨#[]⟩=([],0):=readBook_cut (k:=k) (file:=⟨#[]⟩) (l:=[]) (K:=0) (Nat.zero_le _) (fun r hr=>by cases hr) (Nat.le_refl _) rfl
 rw [VY,show NM ⟨[]⟩ TB=(⟨#[]⟩,false) from rfl,h]
 rfl
theorem RAF (ts:List ByteArray):∀ (j K:Nat),j≤ts.length→(frs (ts.take j)).length≤K→j≤whole ts K:=by
 induction ts with
 | nil=>intro j K hj _;rw [List.length_nil] at hj;exact Nat.le_trans hj (Nat.zero_le _)
 | cons t ts ih=>
  intro j K hj h
  cases j with
  | zero=>exact Nat.zero_le _
  | succ j=>
   rw [List.take_succ_cons,frs,List.length_append] at h
   rw [List.length_cons] at hj
   rw [whole,if_pos (by omega)]
   have:=ih j (K - (frameL (bs t)).length) (by omega) (by omega)
   omega
theorem SAF {F:ByteArray} {n:Int} (h:0≤n∧n=(F.size:Int)) (hF:F.size≤20000):Ba (dk F n)=some true:=by
 obtain ⟨m,hm⟩:∃ m,gas=m+1+1:=⟨gas - 2,rfl⟩
 have h1:((dk F n).fFiles.length:Int)=1:=rfl
 rw [Ba,Bo,Rn,Option.bind_some,KZ (by omega) hF,hm,Gj]
 simp only [Fj,h1]
 rw [cond_f (by rfl),cond_t (by rfl),cond_t (by rfl),cond_t (by rfl)]
 have e:w64 (0+1)=1:=by rw [w64_id (by omega) (by omega)];rfl
 rw [show (dk F n).fFiles.getD (0:Int).toNat (⟨⟨#[]⟩,⟨#[]⟩,0⟩:SFile)=⟨TB,F,n⟩ from rfl,show decide ((⟨TB,F,n⟩:SFile).fKept<((⟨TB,F,n⟩:SFile).fText.size:Int))=false from decide_eq_false (by show ¬ n<(F.size:Int);omega),cond_false,e,Gj]
 simp only [Fj,h1]
 rfl
theorem p_spec_DrawPlaces:Ok (spec_DrawPlaces ()) fun r=>r.length=12∧∀ x ∈ r,0≤x∧x<10000:=by
 have key:∀ (j i m:Nat) (a h:Int) (l:List Int),i+j=12→0≤a→l.length=i→(∀ x ∈ l,0≤x∧x<10000)→Ok (L_spec_DrawPlaces (m+j+1) (.c0 (i:Int) a h l)) fun r=>r.length=12∧∀ x ∈ r,0≤x∧x<10000:=by
  intro j
  induction j with
  | zero=>
   intro i m a h l hi ha hl hx
   rw [L_spec_DrawPlaces];simp only [B_spec_DrawPlaces]
   rw [cond_f (by rw [decide_eq_false_iff_not];omega)]
   exact Ok.ret ⟨by omega,hx⟩
  | succ j ih=>
   intro i m a h l hi ha hl hx
   have hw:w64 ((i:Int)+1)=((i+1:Nat):Int):=by rw [w64_id (by omega) (by omega)];rfl
   rw [show m+(j+1)+1=(m+j+1)+1 from rfl,L_spec_DrawPlaces]
   simp only [B_spec_DrawPlaces,hw]
   rw [cond_t (by rw [decide_eq_true_eq];omega)]
   refine Ok.bind (p_spec_l01Below (c:=⟨(),a,h⟩) ha) fun n hn=>Ok.chk (by rw [decide_eq_true_eq];omega) (ih (i+1) m _ _ _ (by omega) hn.2 (by rw [List.length_append,List.length_singleton];omega) fun x hx2=>?_)
   rcases List.mem_append.1 hx2 with hx2 | hx2
   ·exact hx x hx2
   ·rw [List.mem_singleton] at hx2;rw [hx2];exact ⟨hn.1.1,hn.1.2.1 (by omega)⟩
 rw [spec_DrawPlaces,E_spec_DrawPlaces]
 refine Ok.bind p_spec_l01New fun c hc=>Ok.bind (p_spec_l01Byte hc) fun r hr=>?_
 obtain ⟨m,hm⟩:∃ m,gas=m+12+1:=⟨gas - 13,rfl⟩
 rw [hm]
 exact key 12 0 m _ _ [] rfl hr.2.2 rfl fun x hx=>by cases hx
theorem TAF {d:SDisk} {n:ByteArray} (h0:d.fFiles.length≤140737488351232):Ia d n=some (NM d n):=by
 rw [Ia,Jo,J8 h0,Option.bind_some,RY,NM]
 cases h:IK d.fFiles n 0 with
 | none=>rfl
 | some j=>
  have:=Mc h
  simp only [Int.toNat_natCast]
  rw [cond_f (by simp),cond_t (by simp;omega)];rfl
theorem UAF (z:List Int):BZ ⟨[]⟩ z=some (⟨[]⟩,true):=by
 obtain ⟨m,hm⟩:∃ m,gas=m+1:=⟨gas - 1,rfl⟩
 rw [BZ,Nj,Rn,Option.bind_some,hm,Jd]
 rfl
theorem VAF {F:ByteArray} {n:Int} {z:List Int} {v out:List SFile} {m:Nat}:Jd (m+1) (.c0 z 1 (dk F n) v out)=some (⟨out⟩,true):=rfl
theorem L8 {F:ByteArray} {n z:Int} (h:0≤n∧n≤(F.size:Int)) (hF:F.size≤20000) (hz:0≤z):∃ K:Nat,n≤(K:Int)∧K≤F.size∧BZ (dk F n) [z]=some (dk (F.extract 0 K) K,true):=by
 obtain ⟨m,hm⟩:∃ m,gas=m+1+1:=⟨gas - 2,rfl⟩
 have h1:((dk F n).fFiles.length:Int)=1:=rfl
 have h2:(([z]:List Int).length:Int)=1:=rfl
 have h3:(([]:List SFile).length+1)*40=40:=rfl
 have e:w64 (0+1)=1:=by rw [w64_id (by omega) (by omega)];rfl
 have hg:(dk F n).fFiles.getD (0:Int).toNat (⟨⟨#[]⟩,⟨#[]⟩,0⟩:SFile)=⟨TB,F,n⟩:=rfl
 have hz0:([z]:List Int).getD (0:Int).toNat 0=z:=rfl
 rw [BZ,Nj,Rn,Option.bind_some,KZ h hF,hm,Jd]
 simp only [Oo,h1,h2,h3,e,hg,hz0,Bool.not_true,cond_false,List.nil_append]
 rw [cond_t (by rfl),cond_t (by rfl),cond_t (by rfl),cond_t (by rfl)]
 simp only [VAF]
 by_cases c1:z > (F.size:Int)
 ·refine ⟨F.size,h.2,Nat.le_refl _,?_⟩
  rw [decide_eq_true c1,cond_true,cond_f (by rw [decide_eq_false_iff_not];omega),cond_t (by simp),Int.toNat_natCast];rfl
 ·rw [decide_eq_false c1,cond_false]
  by_cases c2:z<n
  ·refine ⟨n.toNat,by omega,by omega,?_⟩
   rw [decide_eq_true c2,cond_true,cond_t (by simp;omega),dk,show ((n.toNat:Nat):Int)=n by omega];rfl
  ·refine ⟨z.toNat,by omega,by omega,?_⟩
   rw [decide_eq_false c2,cond_false,cond_t (by simp;omega),dk,show ((z.toNat:Nat):Int)=z by omega];rfl
theorem N8 {d c:SDisk} {l:List SAct} {z:List Int} (hd:d.fFiles.length*40≤140737488351232) (h:BZ d z=some (c,true)):XY d l 0 z=some (c,true):=by
 rw [XY,Ld,p_spec_l01In,Option.bind_some,inR_iff.2 (show (0:Int)≤0∧(0:Int)≤(l.length:Int) by omega),Bool.not_true,cond_false,cond_t (by simp),show (l.take (0:Int).toNat).drop 0=[] from rfl,Tn hd (Nat.zero_le _) (fun a ha=>by cases ha),Option.bind_some,CV]
 rw [cond_f (by rfl),h];rfl
theorem O8 {d e c:SDisk} {T:ByteArray} {z:List Int} (hT:T.size≤20000) (hd:d.fFiles.length*40≤140737488351232) (ha:JY d ⟨1,TB,T,⟨#[]⟩⟩=(e,true)) (h:BZ e z=some (c,true)):XY d (KY T) 1 z=some (c,true):=by
 have e1:CV d [⟨1,TB,T,⟨#[]⟩⟩] 0=(e,1):=by rw [CV,ha];rfl
 rw [XY,Ld,p_spec_l01In,Option.bind_some,show inR 1 0 ((KY T).length:Int)=true from rfl,Bool.not_true,cond_false,cond_t (by rfl),show ((KY T).take (1:Int).toNat).drop 0=[⟨1,TB,T,⟨#[]⟩⟩] from rfl,Tn (l:=[⟨1,TB,T,⟨#[]⟩⟩]) hd (show (1:Nat)≤140737488351232 by omega) (fun a ha=>by rw [List.mem_singleton] at ha;rw [ha];show T.size≤_;omega),Option.bind_some,e1]
 rw [cond_f (by rfl),h];rfl
theorem P8 {d e c:SDisk} {T:ByteArray} {z:List Int} (hT:T.size≤20000) (hd:d.fFiles.length*40≤140737488351232) (ha:CV d (KY T) 0=(e,2)) (h:BZ e z=some (c,true)):XY d (KY T) 2 z=some (c,true):=by
 rw [XY,Ld,p_spec_l01In,Option.bind_some,show inR 2 0 ((KY T).length:Int)=true from rfl,Bool.not_true,cond_false,cond_t (by rfl),show ((KY T).take (2:Int).toNat).drop 0=KY T from rfl,Tn (l:=KY T) hd (show (2:Nat)≤140737488351232 by omega) (fun a ha=>by
  rw [KY,List.mem_cons,List.mem_singleton] at ha
  rcases ha with rfl | rfl
  ·show T.size≤_;omega
  ·exact Nat.zero_le _),Option.bind_some,ha]
 rw [cond_f (by rfl),h];rfl
theorem enterAll_sound {l:List SRec}:∀ {b:SBook},(enterAllB b l).2=true→Sound l:=by
 induction l with
 | nil=>intro b _ r hr;cases hr
 | cons x xs ih=>
  intro b h r hr
  rw [enterAllB] at h
  cases h2:(enterB b x).2
  ·rw [h2] at h;cases h
  ·rw [h2,cond_true] at h
   rcases List.mem_cons.1 hr with rfl | hr
   ·exact (enterB_ok h2).2.1
   ·exact ih h r hr
theorem drawn_sound {l:List SRec} {b:SBook} (h:Drawn l b):Sound l:=enterAll_sound (b:=bookNew) (by rw [h.1])
def Small (d:SDisk):Prop:=d.fFiles.length≤1∧∀ f ∈ d.fFiles,f.fText.size≤20000
theorem Un:Small ⟨[]⟩:=⟨Nat.zero_le _,fun f hf=>by cases hf⟩
theorem Qc {F:ByteArray} {n:Int} (h:F.size≤20000):Small (dk F n):=⟨Nat.le_refl _,fun f hf=>by
 have hf:f ∈ [(⟨TB,F,n⟩:SFile)]:=hf
 rw [List.mem_singleton] at hf
 subst hf;exact h⟩
theorem Wn {k:ByteArray} {l:List SRec} {i:Nat} (h:i<l.length):frs (tx k 1 (l.take (i+1)))=frs (tx k 1 (l.take i))++frameL (bs (lockT k ((i:Int)+1) (recText l[i]).1).1):=by
 rw [take_at h,tx_app,frs_app,List.length_take,Nat.min_eq_left (by omega),show (1:Int)+(i:Int)=(i:Int)+1 by omega,tx,tx,frs,frs,List.append_nil]
theorem Yi {k:ByteArray} {l:List SRec} (hl:l.length≤12) (i:Nat):(frs (tx k 1 (l.take i))).length≤4008:=by
 have hz:(l.take i).length≤12:=by rw [List.length_take];omega
 have h:=frs_small k _ (tx_size k (l.take i) 1 (by omega) (by omega))
 rw [tx_len] at h
 omega
def Eb (k:ByteArray) (l:List SRec) (i:Nat) (d:SDisk):Prop:=(i=0∧d=⟨[]⟩)∨∃ F:ByteArray,d=dk F F.size∧bs F=frs (tx k 1 (l.take i))
theorem Q8 {k:ByteArray} {r:SRec} {i:Nat} (hr:(recText r).2=true) (hi:i≤10000):∃ T,bookActs k (i:Int) r=(KY T,true)∧bs T=frameL (bs (lockT k ((i:Int)+1) (recText r).1).1):=by
 have hz:=recText_size r
 obtain ⟨l1,l2,l3⟩:=lock_ok (k:=k) (s:=(recText r).1) (num:=(i:Int)+1) (by omega) (by omega)
 obtain ⟨f1,f2⟩:=frame_ok (t:=(lockT k ((i:Int)+1) (recText r).1).1) (by omega)
 refine ⟨(frameT (lockT k ((i:Int)+1) (recText r).1).1).1,?_,by rw [f2,bs_ofBytes (frameL_byt (byt_bs _))]⟩
 rw [bookActs,hr,inR_iff.2 (show 0≤(i:Int)∧(i:Int)≤10000 by omega)]
 generalize (frameT (lockT k ((i:Int)+1) (recText r).1).1).1=T
 rfl
theorem Jv {k:ByteArray} {l:List SRec} {i:Nat} {d:SDisk} (hl:l.length≤12) (h:Eb k l i d):Small d:=by
 rcases h with ⟨_,rfl⟩ | ⟨F,rfl,hF⟩
 ·exact Un
 ·have:=Yi (k:=k) hl i
  exact Qc (by rw [←bs_len,hF];omega)
theorem Xn {k T:ByteArray} {l:List SRec} {i:Nat} (hl:l.length≤12) (hi:i<l.length) (hT:bs T=frameL (bs (lockT k ((i:Int)+1) (recText l[i]).1).1)):(frs (tx k 1 (l.take i))).length+T.size≤4008:=by
 have h:=congrArg List.length (Wn (k:=k) hi)
 have h2:=Yi (k:=k) hl (i+1)
 rw [List.length_append,←hT,bs_len] at h
 omega
theorem U8 {k T:ByteArray} {l:List SRec} {i:Nat} {d:SDisk} (hl:l.length≤12) (hi:i<l.length) (h:Eb k l i d) (hT:bs T=frameL (bs (lockT k ((i:Int)+1) (recText l[i]).1).1)):∃ E:ByteArray,CV d (KY T) 0=(dk E E.size,2)∧bs E=frs (tx k 1 (l.take (i+1))):=by
 have hs:=Xn hl hi hT
 rcases h with ⟨rfl,rfl⟩ | ⟨F,rfl,hF⟩
 ·exact ⟨T,G8 (by omega),by rw [Wn hi,←hT];rfl⟩
 ·have hz:(F++T).size=F.size+T.size:=ByteArray.size_append
  have hF2:F.size=(frs (tx k 1 (l.take i))).length:=by rw [←bs_len,hF]
  exact ⟨F++T,H8 (by omega) (by omega),by rw [bs_append,hF,Wn hi,←hT]⟩
def Kv (k:ByteArray) (l:List SRec) (i:Nat) (c:SDisk):Prop:=(i=0∧c=⟨[]⟩)∨∃ (X:ByteArray) (K:Nat) (n:Int),c=dk X n∧(0≤n∧n≤(X.size:Int))∧bs X=(frs (tx k 1 l)).take K∧(frs (tx k 1 (l.take i))).length≤K∧K≤(frs (tx k 1 l)).length
theorem Yn {k E:ByteArray} {l:List SRec} {i:Nat} {n z:Int} (hn:0≤n∧n≤(E.size:Int)) (hE:E.size≤20000) (hz:0≤z) (hi:((frs (tx k 1 (l.take i))).length:Int)≤n) (hb:bs E=frs (tx k 1 l)):∃ c,BZ (dk E n) [z]=some (c,true)∧Kv k l i c:=by
 obtain ⟨K,h1,h2,h3⟩:=L8 hn hE hz
 have hE2:E.size=(frs (tx k 1 l)).length:=by rw [←bs_len,hb]
 exact ⟨_,h3,.inr ⟨E.extract 0 K,K,K,rfl,by rw [ByteArray.size_extract];omega,by rw [bs_extract,List.drop_zero,hb],by omega,by omega⟩⟩
theorem WAF {k T:ByteArray} {l:List SRec} {i:Nat} {d:SDisk} {q z:Int} (hl:l.length≤12) (hi:i+1=l.length) (h:Eb k l i d) (hT:bs T=frameL (bs (lockT k ((i:Int)+1) (recText (l[i]'(by omega))).1).1)) (hq:0≤q∧q<3) (hz:0≤z):∃ c,XY d (KY T) q [z]=some (c,true)∧Kv k l i c:=by
 have hlt:i<l.length:=by omega
 have hs:=Xn hl hlt hT
 have hsm:=Jv hl h
 have hall:frs (tx k 1 l)=frs (tx k 1 (l.take i))++bs T:=by
  have e:=Wn (k:=k) hlt
  rw [List.take_of_length_le (by omega),←hT] at e
  exact e
 have h40:d.fFiles.length*40≤140737488351232:=by have:=hsm.1;omega
 have hq3:q=0∨q=1∨q=2:=by omega
 have hlen:=congrArg List.length hall
 rw [List.length_append,bs_len] at hlen
 rcases h with ⟨rfl,rfl⟩ | ⟨F,rfl,hF⟩
 ·have hT0:bs T=frs (tx k 1 l):=by rw [hall];rfl
  have hw0:((frs (tx k 1 (l.take 0))).length:Int)=0:=rfl
  rcases hq3 with rfl | rfl | rfl
  ·exact ⟨_,N8 h40 (UAF _),.inl ⟨rfl,rfl⟩⟩
  ·obtain ⟨c,h1,h2⟩:=Yn (k:=k) (E:=T) (l:=l) (i:=0) (n:=0) (by omega) (by omega) hz (by omega) hT0
   exact ⟨c,O8 (by omega) h40 (D8 (by omega)) h1,h2⟩
  ·obtain ⟨c,h1,h2⟩:=Yn (k:=k) (E:=T) (l:=l) (i:=0) (n:=T.size) (by omega) (by omega) hz (by omega) hT0
   exact ⟨c,P8 (by omega) h40 (G8 (by omega)) h1,h2⟩
 ·have hz2:(F++T).size=F.size+T.size:=ByteArray.size_append
  have hF2:F.size=(frs (tx k 1 (l.take i))).length:=by rw [←bs_len,hF]
  have hb:bs (F++T)=frs (tx k 1 l):=by rw [bs_append,hF,hall]
  rcases hq3 with rfl | rfl | rfl
  ·obtain ⟨K,h1,h2,h3⟩:=L8 (F:=F) (n:=F.size) (z:=z) (by omega) (by omega) hz
   exact ⟨_,N8 h40 h3,.inr ⟨F.extract 0 K,K,K,rfl,by rw [ByteArray.size_extract];omega,by rw [bs_extract,List.drop_zero,hF,hall,List.take_append_of_le_length (by omega)],by omega,by omega⟩⟩
  ·obtain ⟨c,h1,h2⟩:=Yn (k:=k) (E:=F++T) (l:=l) (i:=i) (n:=F.size) (by omega) (by omega) hz (by omega) hb
   exact ⟨c,O8 (by omega) h40 (E8 (by omega) (by omega)) h1,h2⟩
  ·obtain ⟨c,h1,h2⟩:=Yn (k:=k) (E:=F++T) (l:=l) (i:=i) (n:=(F++T).size) (by omega) (by omega) hz (by omega) hb
   exact ⟨c,P8 (by omega) h40 (H8 (by omega) (by omega)) h1,h2⟩
theorem Nv {k F:ByteArray} {l:List SRec} {n:Int} (hl:l.length≤12) (hs:Sound l) (he:(enterAllB bookNew l).2=true) (hf:bs F=frs (tx k 1 l)) (hn:0≤n∧n≤(F.size:Int)):VY k (dk F n)=((enterAllB bookNew l).1,[],true):=by
 have hsm:=Yi (k:=k) hl l.length
 rw [List.take_length] at hsm
 have hF:F.size=(frs (tx k 1 l)).length:=by rw [←bs_len,hf]
 have h:=I8 (k:=k) (F:=F) (l:=l) (n:=n) (K:=(frs (tx k 1 l)).length) hl hs he (Nat.le_refl _) (by rw [List.take_of_length_le (Nat.le_refl _)];exact hf) hn (by omega)
 rw [whole_all _ _ (Nat.le_refl _),tx_len,List.take_length,←hF,beq_self_eq_true,cond_true] at h
 exact h
theorem XAF {k:ByteArray} {l:List SRec} {i:Nat} {c:SDisk} {b:SBook} (hl:l.length≤12) (hi:i+1=l.length) (hs:Sound l) (he:enterAllB bookNew l=(b,true)) (h:Kv k l i c):∃ (x:SBook) (todo:List SAct) (f:SDisk),VY k c=(x,todo,true)∧(x=b∨x=(enterAllB bookNew (l.take i)).1)∧CV c todo 0=(f,(todo.length:Int))∧VY k f=(x,[],true)∧Small c∧Small f∧todo.length≤3∧∀ a ∈ todo,a.fText.size≤20000:=by
 have he2:(enterAllB bookNew l).2=true:=by rw [he]
 rcases h with ⟨rfl,rfl⟩ | ⟨X,K,n,rfl,hn,hX,hK1,hK2⟩
 ·exact ⟨bookNew,[],⟨[]⟩,Qn k,.inr rfl,rfl,Qn k,Un,Un,Nat.zero_le _,fun a ha=>by cases ha⟩
 ·have hsm:=Yi (k:=k) hl l.length
  rw [List.take_length] at hsm
  have hXs:X.size=K:=by rw [←bs_len,hX,List.length_take];omega
  have hm:=I8 (k:=k) (n:=n) hl hs he2 hK2 hX hn (by omega)
  obtain ⟨w1,w2,w3⟩:=whole_le (tx k 1 l) K
  have w4:=RAF (tx k 1 l) i K (by rw [tx_len];omega) (by rw [tx_take];exact hK1)
  rw [tx_len] at w2
  rw [tx_take] at w3
  generalize whole (tx k 1 l) K=w at hm w2 w3 w4
  have hx:(enterAllB bookNew (l.take w)).1=b∨(enterAllB bookNew (l.take w)).1=(enterAllB bookNew (l.take i)).1:=by
   by_cases hw:w=i
   ·right;rw [hw]
   ·left;rw [List.take_of_length_le (by omega),he]
  have hX2:X.size≤20000:=by omega
  by_cases hc:((frs (tx k 1 (l.take w))).length:Int)=(X.size:Int)
  ·rw [beq_iff_eq.2 hc,cond_true] at hm
   exact ⟨_,[],_,hm,hx,rfl,hm,Qc hX2,Qc hX2,Nat.zero_le _,fun a ha=>by cases ha⟩
  ·rw [beq_eq_false_iff_ne.2 hc,cond_false] at hm
   have hpre:frs (tx k 1 l)=frs (tx k 1 (l.take w))++frs (tx k (1+((l.take w).length:Int)) (l.drop w)):=by
    rw [←frs_app,←tx_app,List.take_append_drop]
   have hG:bs (X.extract 0 (frs (tx k 1 (l.take w))).length)=frs (tx k 1 (l.take w)):=by
    rw [bs_extract,List.drop_zero,hX,List.take_take,Nat.min_eq_left w3,hpre,List.take_left]
   have hGs:(X.extract 0 (frs (tx k 1 (l.take w))).length).size=(frs (tx k 1 (l.take w))).length:=by rw [←bs_len,hG]
   have hm2:=Nv (k:=k) (l:=l.take w) (F:=X.extract 0 (frs (tx k 1 (l.take w))).length) (n:=((X.extract 0 (frs (tx k 1 (l.take w))).length).size:Int)) (by rw [List.length_take];omega) (fun r hr=>hs r (List.mem_of_mem_take hr)) (Gv w he2) hG (by omega)
   generalize X.extract 0 (frs (tx k 1 (l.take w))).length=G at hm hG hGs hm2
   refine ⟨_,Xi G,dk G G.size,hm,hx,OAF hn hX2 (by omega),hm2,Qc hX2,Qc (by omega),Nat.le_refl _,fun a ha=>?_⟩
   rw [Xi,List.mem_cons,List.mem_cons,List.mem_singleton] at ha
   rcases ha with rfl | rfl | rfl
   ·show G.size≤20000;omega
   ·exact Nat.zero_le _
   ·exact Nat.zero_le _
theorem QAG (b:SBook) (r:SRec):(enterB b r).1.fThings.length≤8:=by
 cases h:(enterB b r).2
 ·have:(enterB b r).1=zBook:=by
   rw [enterB] at h ⊢
   cases hc:(!(bookOk b) || (!(recText r).2 || decide (b.fCount≥10000)))
   ·rw [hc] at h
    simp only [cond_false] at h ⊢
    cases h1:r.fKind == 1
    ·rw [h1] at h
     simp only [cond_false] at h ⊢
     cases h2:r.fKind == 2
     ·rw [h2] at h
      simp only [cond_false] at h ⊢
      cases h3:r.fKind == 3
      ·rw [h3] at h
       simp only [cond_false] at h ⊢
       cases ht:thingIn b.fThings r.fNum with
       | none=>rfl
       | some x=>rw [ht] at h;cases h
      ·rw [h3] at h
       simp only [cond_true] at h ⊢
       cases ht:putThing b r.fThing with
       | none=>rfl
       | some x=>rw [ht] at h;cases h
     ·rw [h2] at h;cases h
    ·rw [h1] at h;cases h
   ·rfl
  rw [this];exact Nat.zero_le _
 ·exact enterB_len h
theorem YAF {b:SBook} {l:List SRec} (h:b.fThings.length≤2932031007317):(enterAllB b l).1.fThings.length≤2932031007317:=by
 induction l generalizing b with
 | nil=>exact h
 | cons r rs ih=>
  rw [enterAllB]
  cases h3:(enterB b r).2
  ·exact Nat.zero_le _
  ·have:=enterB_len h3
   exact ih (by omega)
theorem ZAF (k:ByteArray) (d:SDisk):(VY k d).1.fThings.length≤2932031007317∧(VY k d).2.1.length≤4:=by
 rw [VY]
 cases (!(FN d) || !(enterAllB bookNew (readBook k (NM d TB).1).1).2)
 ·refine ⟨YAF (Nat.zero_le _),?_⟩
  rw [cond_false]
  show List.length (_++_)≤4
  rw [List.length_append]
  cases decide (RY d nNew≥0) <;> cases (readBook k (NM d TB).1).2 == ((NM d TB).1.size:Int) <;> simp
 ·exact ⟨Nat.zero_le _,Nat.zero_le _⟩
theorem Zi {k:ByteArray} {d:SDisk} (hk:k.size=3) (h:Small d):RZ k d=some (VY k d):=AAF (by omega) (by have:=h.1;omega) (fun f hf=>by have:=h.2 f hf;omega)
theorem Ov {d:SDisk} {l:List SAct} (h:Small d) (hl:l.length≤3) (ha:∀ a ∈ l,a.fText.size≤20000):EZ d l=some (CV d l 0):=Tn (by have:=h.1;omega) (by omega) (fun a hx=>by have:=ha a hx;omega)
theorem V8 {T:ByteArray} (hT:T.size≤20000):(KY T).length≤3∧∀ a ∈ KY T,a.fText.size≤20000:=⟨Nat.le_succ _,fun a ha=>by
 rw [KY,List.mem_cons,List.mem_singleton] at ha
 rcases ha with rfl | rfl
 ·exact hT
 ·exact Nat.zero_le _⟩
theorem AAG {k:ByteArray} {m:Nat} (hk:k.size=3):FZ (m+1) (.c0 k 0 [] [])=some true:=by
 rw [FZ]
 simp only [Td]
 rw [w64_id (n:=0+1) (by omega) (by omega),cond_f (by rfl),cond_t (by rfl),Zi hk Un,Option.bind_some,Qn,p_spec_BookNew]
 dsimp only
 rw [cond_true,cond_t (by rfl),Option.bind_some,Ui (Nat.zero_le _),Ti.2 rfl];rfl
theorem BAG {k:ByteArray} {l:List SRec} {i m:Nat} {a:List SFile} (hk:k.size=3) (hl:l.length≤12) (hs:Sound l) (hi:i+1<l.length) (h:Eb k l i ⟨a⟩):∃ a',Eb k l (i+1) ⟨a'⟩∧FZ (m+1) (.c0 k (i:Int) l a)=FZ m (.c0 k ((i+1:Nat):Int) l a'):=by
 have hlt:i<l.length:=by omega
 have hw:w64 ((i:Int)+1)=((i+1:Nat):Int):=by rw [w64_id (by omega) (by omega)];rfl
 obtain ⟨T,t1,t2⟩:=Q8 (k:=k) (hs _ (List.getElem_mem hlt)) (show i≤10000 by omega)
 have hT:=Xn hl hlt t2
 obtain ⟨E,e1,e2⟩:=U8 hl hlt h t2
 obtain ⟨b1,b2⟩:=V8 (T:=T) (by omega)
 refine ⟨(dk E E.size).fFiles,.inr ⟨E,rfl,e2⟩,?_⟩
 rw [FZ]
 simp only [Td,hw,Int.toNat_natCast,getD_at hlt]
 rw [cond_t (by rw [decide_eq_true_eq];omega),cond_t (by simp;omega),p_spec_BookActs (by omega),Option.bind_some,t1]
 dsimp only
 rw [Ov (Jv hl h) b1 b2,Option.bind_some,e1]
theorem CAG {k:ByteArray} {l:List SRec} {ps:List Int} {b:SBook} {i m:Nat} {a:List SFile} (hk:k.size=3) (hl:l.length≤12) (hs:Sound l) (hd:Drawn l b) (h2:spec_DrawPlaces ()=some ps) (hp:ps.length=12) (hpx:∀ x ∈ ps,0≤x∧x<10000) (hi:i+1=l.length) (h:Eb k l i ⟨a⟩):FZ (m+1) (.c0 k (i:Int) l a)=some true:=by
 have hlt:i<l.length:=by omega
 have hw:w64 ((i:Int)+1)=((i+1:Nat):Int):=by rw [w64_id (by omega) (by omega)];rfl
 have hw2:w64 ((l.length:Int) - 1)=(i:Int):=by rw [w64_id (by omega) (by omega)];omega
 obtain ⟨T,t1,t2⟩:=Q8 (k:=k) (hs _ (List.getElem_mem hlt)) (show i≤10000 by omega)
 have hT:=Xn hl hlt t2
 obtain ⟨E,e1,e2⟩:=U8 hl hlt h t2
 rw [List.take_of_length_le (by omega)] at e2
 obtain ⟨b1,b2⟩:=V8 (T:=T) (by omega)
 have hsm:=Jv hl h
 have hEs:E.size≤20000:=by
  have:=Yi (k:=k) hl l.length
  rw [List.take_length,←e2,bs_len] at this
  omega
 have hnew:=Nv (k:=k) (F:=E) (l:=l) (n:=(E.size:Int)) hl hs (by rw [hd.1]) e2 (by omega)
 rw [hd.1] at hnew
 have hold:VY k ⟨a⟩=((enterAllB bookNew (l.take i)).1,[],true):=by
  rcases h with ⟨h0,ha⟩ | ⟨F,ha,hF⟩
  ·rw [ha,h0];exact Qn k
  ·rw [ha]
   exact Nv (by rw [List.length_take];omega) (fun r hr=>hs r (List.mem_of_mem_take hr)) (Gv i (by rw [hd.1])) hF (by omega)
 have hbl:=(bookOk_iff.1 hd.2.1).2.2.2.1
 have hp0:ps.getD 0 0=ps[0]'(by omega):=getD_at (by omega) 0
 have hp1:ps.getD 1 0=ps[1]'(by omega):=getD_at (by omega) 0
 have g0:=tmod_lt (a:=ps[0]'(by omega)) (n:=3) (hpx _ (List.getElem_mem _)).1 (by omega)
 have g1:=tmod_lt (a:=ps[1]'(by omega)) (n:=200) (hpx _ (List.getElem_mem _)).1 (by omega)
 have hfz:(NM ⟨a⟩ TB).1.size≤20000:=X7 hsm.2
 obtain ⟨c,c1,c2⟩:=WAF (z:=w64 (((NM ⟨a⟩ TB).1.size:Int)+(ps[1]'(by omega)).tmod 200)) hl hi h t2 g0 (by rw [w64_id (by omega) (by omega)];omega)
 obtain ⟨x,todo,f,m1,m2,m3,m4,m5,m6,m7,m8⟩:=XAF hl hi hs hd.1 c2
 have hxl:x.fThings.length≤140737488351232:=by
  have:=(ZAF k c).1
  rw [m1] at this
  have this:x.fThings.length≤2932031007317:=this
  omega
 have hfin:(bif Cb x b then some true else some (Cb x (enterAllB bookNew (l.take i)).1))=some true:=by
  rcases m2 with h | h
  ·rw [Ti.2 h];rfl
  ·rw [Ti.2 h];cases Cb x b <;> rfl
 rw [FZ]
 simp only [Td,hw,hw2,Int.toNat_natCast,getD_at hlt,show (⟨#[98,111,111,107]⟩:ByteArray)=TB from rfl]
 rw [cond_f (by rw [decide_eq_false_iff_not];omega),cond_f (by rw [beq_eq_false_iff_ne];omega),cond_t (by simp;omega),GAF (by omega) (hd.2.2 _ (List.getElem_mem hlt)),Option.bind_some,t1]
 dsimp only
 rw [Ov hsm b1 b2,Option.bind_some,e1]
 dsimp only
 rw [Zi hk (Qc hEs),Option.bind_some,hnew,p_spec_BookNew,Option.bind_some,HAF (Nat.zero_le _) (by omega),Option.bind_some,hd.1,Zi hk hsm,Option.bind_some,hold]
 dsimp only
 rw [Bool.not_true,cond_false,cond_false,cond_f (by rfl),Ui (by omega),Option.bind_some,Ti.2 rfl,Bool.not_true,cond_false,SAF (by omega) hEs,Option.bind_some,Bool.not_true,cond_false,h2,Option.bind_some,TAF (by have:=hsm.1;omega),Option.bind_some]
 rw [cond_t (by rw [hp];rfl),cond_t (by rw [hp];rfl),show (0:Int).toNat=0 from rfl,show (1:Int).toNat=1 from rfl,hp0,hp1,c1,Option.bind_some]
 dsimp only
 rw [Zi hk m5,Option.bind_some,m1]
 dsimp only
 rw [Ov m5 m7 m8,Option.bind_some,m3]
 dsimp only
 rw [Zi hk m6,Option.bind_some,m4]
 dsimp only
 rw [cond_true,cond_true,cond_true,beq_self_eq_true,cond_true,cond_t (by rfl),Ui hxl,Option.bind_some,Ti.2 rfl,cond_true,Ui hxl,Option.bind_some,Ui hxl,Option.bind_some]
 exact hfin
theorem law_FnMounts (x0:Unit):laws_FnMounts x0=some true:=by
 rw [laws_FnMounts,Qo,p_laws_big,Option.bind_some]
 cases decide ((codeL.length:Int) > 1048576)
 ·rw [cond_false]
  obtain ⟨l,h1,hl,b,hd⟩:=p_spec_DrawRecords
  obtain ⟨ps,h2,hp,hpx⟩:=p_spec_DrawPlaces
  have hs:=drawn_sound hd
  generalize hk:(⟨#[107,101,121]⟩:ByteArray)=k
  have hkz:k.size=3:=by rw [←hk];rfl
  rw [h1,Option.bind_some]
  by_cases h0:l=[]
  ·subst h0
   exact AAG (m:=gas - 1) hkz
  ·have hpos:0<l.length:=by
    rcases Nat.eq_zero_or_pos l.length with h | h
    ·exact absurd (List.eq_nil_of_length_eq_zero h) h0
    ·exact h
   have key:∀ (j i m:Nat) (a:List SFile),i+j+1=l.length→Eb k l i ⟨a⟩→FZ (m+j+1) (.c0 k (i:Int) l a)=some true:=by
    intro j
    induction j with
    | zero=>
     intro i m a hi ha
     exact CAG hkz hl hs hd h2 hp hpx hi ha
    | succ j ih=>
     intro i m a hi ha
     obtain ⟨a',e1,e2⟩:=BAG (m:=m+j+1) hkz hl hs (by omega) ha
     rw [show m+(j+1)+1=(m+j+1)+1 from rfl,e2]
     exact ih (i+1) m a' (by omega) e1
   obtain ⟨m,hm⟩:∃ m,gas=m+(l.length - 1)+1:=⟨gas - (l.length - 1+1),by have:=gas_lt (n:=l.length - 1+1) (by omega);omega⟩
   rw [hm]
   exact key (l.length - 1) 0 m [] (by omega) (.inl ⟨rfl,rfl⟩)
 ·rfl
end Go.Proofs.YtjfkbidckphneaaGreatDoor.G
