/- The plain law of FnLocksOut: whatever the arguments, it answers true. Conditions: what is read is in reach. Part 2 of 2. -/
import Derived.Test.YtefdenlloeedkaaGreatDoorPureFnLocksOuta
namespace Go.Proofs.YtefdenlloeedkaaGreatDoor.G
open Go Go.Ev
set_option linter.unusedVariables false
set_option linter.unusedSimpArgs false
set_option linter.unusedSectionVars false
variable [PC]
def zRec:SRec:=⟨(0:Int),(⟨#[]⟩:ByteArray),(0:Int),(⟨(0:Int),(0:Int),false,false,false,false,(⟨#[]⟩:ByteArray),(0:Int)⟩:SThing)⟩
def ReadsRec (text:ByteArray) (r:SRec×Bool):Prop:=(r.2=true∧recText r.1=(text,true))∨r=(zRec,false)
theorem rec_end {text:ByteArray} (x:SRec) (bad:Bool):∃ r,(bif bad then some (zRec,false) else bif !(recText x).2 then some (zRec,false) else bif !((ByteArray.toList (recText x).1) == (ByteArray.toList text)) then some (zRec,false) else some (x,true))=some r∧ReadsRec text r:=by
 cases bad
 ·cases h5:(recText x).2
  ·exact ⟨_,rfl,.inr rfl⟩
  ·rw [toList_inj]
   by_cases h6:(recText x).1=text
   ·rw [decide_eq_true h6];exact ⟨_,rfl,.inl ⟨rfl,Prod.ext h6 h5⟩⟩
   ·rw [decide_eq_false h6];exact ⟨_,rfl,.inr rfl⟩
 ·exact ⟨_,rfl,.inr rfl⟩
theorem rec_parts {text:ByteArray} {x:SRec} (h:recText x=(text,true)) :
  (∃ s:ByteArray,x=⟨1,s,0,zRec.fThing⟩∧s.size=32∧text=ofBytes [1]++s)∨(∃ n:Int,x=⟨2,zRec.fText,n,zRec.fThing⟩∧0≤n∧n≤3∧text=ofBytes [2]++ofBytes (varL n))∨
  (∃ t:SThing,∃ s:ByteArray,x=⟨3,zRec.fText,0,t⟩∧thingText t=(s,true)∧text=ofBytes [3]++s)∨(∃ n:Int,x=⟨4,zRec.fText,n,zRec.fThing⟩∧1≤n∧n≤1000∧text=ofBytes [4]++ofBytes (varL n)):=by
 have hE:∀ s:ByteArray,isE s=true→s=⟨#[]⟩:=fun s h=>by unfold isE at h;rw [toList_inj] at h;exact of_decide_eq_true h
 have hZ:∀ t:SThing,isZ t=true→t=zRec.fThing:=fun t h=>by
  unfold isZ at h
  simp only [isE_e] at h
  obtain ⟨t1,t2,t3,t4,t5,t6,t7,t8⟩:=t
  simp only [Bool.and_eq_true,beq_iff_eq] at h
  obtain ⟨rfl,rfl,rfl,rfl,rfl,rfl,h7,rfl,_⟩:=h
  rw [hE _ h7];rfl
 obtain ⟨k,s,n,t⟩:=x
 unfold recText at h
 simp only at h
 cases k1:k == 1 <;> rw [k1] at h
 ·cases k2:k == 2 <;> rw [k2] at h
  ·cases k3:k == 3 <;> rw [k3] at h
   ·cases k4:k == 4 <;> rw [k4] at h
    ·exact Bool.noConfusion (congrArg Prod.snd h)
    ·simp only [cond_false,cond_true] at h
     cases hc:isE s && isZ t && inR n 1 1000 <;> rw [hc] at h
     ·exact Bool.noConfusion (congrArg Prod.snd h)
     ·simp only [Bool.and_eq_true,inR_iff] at hc
      refine .inr (.inr (.inr ⟨n,?_,hc.2.1,hc.2.2,(congrArg Prod.fst h).symm⟩))
      rw [beq_iff_eq.1 k4,hE _ hc.1.1,hZ _ hc.1.2];rfl
   ·simp only [cond_false,cond_true] at h
    cases hc:(thingText t).2 && isE s && n == 0 <;> rw [hc] at h
    ·exact Bool.noConfusion (congrArg Prod.snd h)
    ·simp only [Bool.and_eq_true,beq_iff_eq] at hc
     refine .inr (.inr (.inl ⟨t,(thingText t).1,?_,Prod.ext rfl hc.1.1,(congrArg Prod.fst h).symm⟩))
     rw [beq_iff_eq.1 k3,hE _ hc.1.2,hc.2];rfl
  ·simp only [cond_false,cond_true] at h
   cases hc:isE s && isZ t && inR n 0 3 <;> rw [hc] at h
   ·exact Bool.noConfusion (congrArg Prod.snd h)
   ·simp only [Bool.and_eq_true,inR_iff] at hc
    refine .inr (.inl ⟨n,?_,hc.2.1,hc.2.2,(congrArg Prod.fst h).symm⟩)
    rw [beq_iff_eq.1 k2,hE _ hc.1.1,hZ _ hc.1.2];rfl
 ·simp only [cond_false,cond_true] at h
  cases hc:(s.size:Int) == 32 && n == 0 && isZ t <;> rw [hc] at h
  ·exact Bool.noConfusion (congrArg Prod.snd h)
  ·simp only [Bool.and_eq_true,beq_iff_eq] at hc
   refine .inl ⟨s,?_,by omega,(congrArg Prod.fst h).symm⟩
   rw [beq_iff_eq.1 k1,hZ _ hc.2,hc.1.2]
theorem rec_at {k:Int} {s:ByteArray} (h0:0≤k) (h1:k≤255):At (ofBytes [k]++s) 0 ([k]++bs s):=⟨[],by rw [List.drop_zero,bs_append,bs_ofBytes (by simp;omega),List.append_nil]⟩
theorem rec_tail {k:Int} {s:ByteArray}:(ofBytes [k]++s).extract (1:Int).toNat (ofBytes [k]++s).size=s:=by
 apply bs_inj
 rw [bs_extract,←bs_len,List.take_length,bs_append]
 rfl
theorem rec_end2 {text:ByteArray} (x:SRec):∃ r,(bif !(recText x).2 then some (zRec,false) else bif !((ByteArray.toList (recText x).1) == (ByteArray.toList text)) then some (zRec,false) else some (x,true))=some r∧ReadsRec text r:=rec_end x false
theorem p_impl_ReadRec {text:ByteArray} (hs:text.size≤140737488351232):∃ r,impl_ReadRec text=some r∧ReadsRec text r:=by
 simp only [impl_ReadRec,E_impl_ReadRec]
 rw [toList_inj]
 by_cases he:text=⟨#[]⟩
 ·rw [decide_eq_true he];exact ⟨_,rfl,.inr rfl⟩
 ·have hz:0<text.size:=by
   rcases Nat.eq_zero_or_pos text.size with h | h
   ·exact absurd (bs_inj (List.eq_nil_of_length_eq_zero (by rw [bs_len];exact h)):text=⟨#[]⟩) he
   ·exact h
  rw [decide_eq_false he,show decide ((0:Int)<(text.size:Int))=true from decide_eq_true (by omega),show decide ((1:Int)≤(text.size:Int))=true from decide_eq_true (by omega)]
  have hb:=bt_byte text 0
  rw [w64_id (n:=bt text 0) (by omega) (by omega)]
  obtain ⟨⟨t,tb⟩,e1,_⟩:=p_impl_ReadThing (text:=text.extract (1:Int).toNat text.size) (by rw [ByteArray.size_extract];omega)
  obtain ⟨⟨v,q,ok⟩,e2,hR⟩:=p_impl_ReadVar (a:=1) hs hz
  have hv:v≤1000000000:=by
   rcases hR with h | ⟨v',_,h,_,h1,_⟩
   ·have:=congrArg Prod.fst h;simp only [no3] at this;omega
   ·have:=congrArg Prod.fst h;simp only at this;omega
  rw [e1,show impl_ReadVar text (1:Int)=_ from e2]
  simp only [Option.bind_some,cond_false,cond_true,Bool.and_self]
  cases bt text 0 == 1
  ·simp only [cond_false]
   cases bt text 0 == 3
   ·simp only [cond_false]
    rw [p_impl_RecText (by simp only;omega)]
    exact rec_end2 _
   ·simp only [cond_true]
    rw [p_impl_RecText (by simp only;omega)]
    exact rec_end2 _
  ·simp only [cond_true]
   rw [p_impl_RecText (by simp only;omega)]
   exact rec_end2 _
theorem p_impl_ReadRec_is {text:ByteArray} {x:SRec} (hs:text.size≤140737488351232) (h:recText x=(text,true)):impl_ReadRec text=some (x,true):=by
 have hne:∀ (k:Int) (s:ByteArray),(decide (ofBytes [k]++s=⟨#[]⟩))=false:=fun k s=>decide_eq_false fun h=>by
  have:=congrArg ByteArray.size h
  rw [ba_append_size,ofBytes_size] at this
  simp only [List.length_singleton] at this
  have h0:(⟨#[]⟩:ByteArray).size=0:=rfl
  omega
 have hd:∀ (k:Int) (s:ByteArray),decide ((0:Int)<((ofBytes [k]++s).size:Int))=true∧decide ((1:Int)≤((ofBytes [k]++s).size:Int))=true:=fun k s=>by
  rw [ba_append_size,ofBytes_size];simp only [List.length_singleton]
  exact ⟨decide_eq_true (by omega),decide_eq_true (by omega)⟩
 have hk:∀ (k:Int) (s:ByteArray),0≤k→k≤255→w64 (bt (ofBytes [k]++s) 0)=k:=fun k s h0 h1=>by
  rw [(rec_at (k:=k) (s:=s) h0 h1).left.head.2 |> fun e=>(show bt (ofBytes [k]++s) 0=k from e),w64_id (by omega) (by omega)]
 rcases rec_parts h with ⟨s,rfl,hz,rfl⟩ | ⟨n,rfl,h0,h1,rfl⟩ | ⟨t,s,rfl,ht,rfl⟩ | ⟨n,rfl,h0,h1,rfl⟩
 ·have h':recText ⟨1,s,0,⟨(0:Int),(0:Int),false,false,false,false,(⟨#[]⟩:ByteArray),(0:Int)⟩⟩=_:=h
  simp only [impl_ReadRec,E_impl_ReadRec,hk 1 s (by omega) (by omega),hd,rec_tail,p_impl_RecText (r:=⟨1,s,0,⟨(0:Int),(0:Int),false,false,false,false,(⟨#[]⟩:ByteArray),(0:Int)⟩⟩) (by simp only;omega),h',Option.bind_some,toList_inj,hne]
  simp [zRec]
 ·have hA:=rec_at (k:=2) (s:=ofBytes (varL n)) (by omega) (by omega)
  rw [bs_ofBytes (varL_byte n h0)] at hA
  have e1:=p_impl_ReadVar_is hs (by omega) (by omega) hA.right
  simp only [List.length_singleton,Nat.zero_add] at e1
  have e2:impl_ReadVar (ofBytes [2]++ofBytes (varL n)) (1:Int)=_:=e1
  have h':recText ⟨2,⟨#[]⟩,n,⟨(0:Int),(0:Int),false,false,false,false,(⟨#[]⟩:ByteArray),(0:Int)⟩⟩=_:=h
  simp only [impl_ReadRec,E_impl_ReadRec,hk 2 _ (by omega) (by omega),hd,e2,Option.bind_some,p_impl_RecText (r:=⟨2,⟨#[]⟩,n,⟨(0:Int),(0:Int),false,false,false,false,(⟨#[]⟩:ByteArray),(0:Int)⟩⟩) (by simp only;omega),h',toList_inj,hne]
  simp [zRec]
 ·have hsz:s.size≤140737488351232:=by rw [ba_append_size] at hs;omega
  have e1:=p_impl_ReadThing_is hsz ht
  have h':recText ⟨3,⟨#[]⟩,0,t⟩=_:=h
  simp only [impl_ReadRec,E_impl_ReadRec,hk 3 s (by omega) (by omega),hd,rec_tail,e1,Option.bind_some,p_impl_RecText (r:=⟨3,⟨#[]⟩,0,t⟩) (by simp only;omega),h',toList_inj,hne]
  simp [zRec]
 ·have hA:=rec_at (k:=4) (s:=ofBytes (varL n)) (by omega) (by omega)
  rw [bs_ofBytes (varL_byte n (by omega))] at hA
  have e1:=p_impl_ReadVar_is hs (by omega) (by omega) hA.right
  simp only [List.length_singleton,Nat.zero_add] at e1
  have e2:impl_ReadVar (ofBytes [4]++ofBytes (varL n)) (1:Int)=_:=e1
  have h':recText ⟨4,⟨#[]⟩,n,⟨(0:Int),(0:Int),false,false,false,false,(⟨#[]⟩:ByteArray),(0:Int)⟩⟩=_:=h
  simp only [impl_ReadRec,E_impl_ReadRec,hk 4 _ (by omega) (by omega),hd,e2,Option.bind_some,p_impl_RecText (r:=⟨4,⟨#[]⟩,n,⟨(0:Int),(0:Int),false,false,false,false,(⟨#[]⟩:ByteArray),(0:Int)⟩⟩) (by simp only;omega),h',toList_inj,hne]
  simp [zRec]
theorem xorL_xorL:∀ {a m:List Int},Byt a→a.length≤m.length→xorL (xorL a m) m=a
 | [],_,_,_=>by simp [xorL]
 | _::_,[],_,h=>by simp at h
 | x::a,y::m,hb,h=>by
  have h1:=xorL_xorL (a:=a) (m:=m) (fun n hn=>hb n (List.mem_cons_of_mem _ hn)) (by simpa using h)
  simp only [xorL] at h1 ⊢
  rw [List.zipWith_cons_cons,List.zipWith_cons_cons,h1,xb_xb (hb x (List.mem_cons_self ..))]
theorem openT_true {k t:ByteArray} {num:Int} (h:(openT k num t).2=true):16≤t.size∧maskOk num ((t.size:Int) - 16)=true∧tagL (bs k) num ((bs t).take (t.size - 16))=(bs t).drop (t.size - 16)∧bs (openT k num t).1=xorL ((bs t).take (t.size - 16)) (maskL (bs k) (varL num) (t.size - 16))∧bs t=(bs t).take (t.size - 16)++tagL (bs k) num ((bs t).take (t.size - 16)):=by
 rw [openT] at h ⊢
 cases h1:decide ((t.size:Int)<16) || !(maskOk num ((t.size:Int) - 16))
 ·rw [h1,cond_false] at h
  rw [Bool.or_eq_false_iff,decide_eq_false_iff_not,Bool.not_eq_false'] at h1
  cases h2:(tagL (bs k) num ((bs t).take (t.size - 16)) == (bs t).drop (t.size - 16))
  ·rw [h2] at h;cases h
  ·rw [cond_false,cond_true,bs_ofBytes (xorL_byt _ _)]
   have h3:=beq_iff_eq.1 h2
   exact ⟨by omega,h1.2,h3,rfl,by rw [h3,List.take_append_drop]⟩
 ·rw [h1] at h;cases h
theorem openT_size (k t:ByteArray) (num:Int):(openT k num t).1.size≤t.size:=by
 have hl:=bs_len t
 rw [openT]
 cases decide ((t.size:Int)<16) || !(maskOk num ((t.size:Int) - 16))
 ·rw [cond_false]
  cases (tagL (bs k) num ((bs t).take (t.size - 16)) == (bs t).drop (t.size - 16))
  ·exact Nat.zero_le _
  ·rw [cond_true,ofBytes_size,xorL,List.length_zipWith,List.length_take];omega
 ·exact Nat.zero_le _
theorem open_seal {k:ByteArray} {num:Int} {s:List Int} (hs:Byt s) (hm:maskOk num s.length=true):openT k num (ofBytes (sealL (bs k) num s))=(ofBytes s,true):=by
 have hx:(xorL s (maskL (bs k) (varL num) s.length)).length=s.length:=xorL_len (by rw [maskL_len];omega)
 have hb:Byt (sealL (bs k) num s):=fun x hx=>by
  rcases List.mem_append.1 hx with hx | hx
  ·exact xorL_byt _ _ x hx
  ·exact tagL_byt _ _ _ x hx
 have hsz:(ofBytes (sealL (bs k) num s)).size=s.length+16:=by rw [ofBytes_size,sealL,List.length_append,hx,tagL_len]
 rw [openT,bs_ofBytes hb,hsz,Nat.add_sub_cancel,show ((s.length+16:Nat):Int) - 16=(s.length:Int) by omega,hm]
 have h1:decide (((s.length+16:Nat):Int)<16)=false:=by rw [decide_eq_false_iff_not];omega
 have h2:(sealL (bs k) num s).take s.length=xorL s (maskL (bs k) (varL num) s.length):=by rw [sealL,List.take_append_of_le_length (by omega),List.take_of_length_le (by omega)]
 have h3:(sealL (bs k) num s).drop s.length=tagL (bs k) num (xorL s (maskL (bs k) (varL num) s.length)):=by rw [sealL,List.drop_append_of_le_length (by omega),List.drop_of_length_le (by omega),List.nil_append]
 rw [h1,h2,h3,beq_self_eq_true,xorL_xorL hs (by rw [maskL_len];omega)]
 rfl
theorem seal_open {k t:ByteArray} {num:Int} (h:(openT k num t).2=true):sealL (bs k) num (bs (openT k num t).1)=bs t:=by
 obtain ⟨h1,h2,h3,h4,h5⟩:=openT_true h
 have hl:((bs t).take (t.size - 16)).length=t.size - 16:=by rw [List.length_take,bs_len];omega
 have hx:(bs (openT k num t).1).length=t.size - 16:=by rw [h4,xorL_len (by rw [maskL_len];omega),hl]
 rw [sealL,hx,h4,xorL_xorL (fun n hn=>byt_bs t n (List.mem_of_mem_take hn)) (by rw [maskL_len];omega),←h5]
theorem seal_inj {k:ByteArray} {num:Int} {a b:List Int} (ha:Byt a) (hb:Byt b) (h:sealL (bs k) num a=sealL (bs k) num b):a=b:=by
 have xa:(xorL a (maskL (bs k) (varL num) a.length)).length=a.length:=xorL_len (by rw [maskL_len];omega)
 have xb':(xorL b (maskL (bs k) (varL num) b.length)).length=b.length:=xorL_len (by rw [maskL_len];omega)
 have hl:=congrArg List.length h
 rw [sealL,sealL,List.length_append,List.length_append,xa,xb',tagL_len,tagL_len] at hl
 have hab:a.length=b.length:=by omega
 have h1:=(List.append_inj h (by rw [xa,xb',hab])).1
 have h2:xorL (xorL a (maskL (bs k) (varL num) a.length)) (maskL (bs k) (varL num) a.length)=xorL (xorL b (maskL (bs k) (varL num) b.length)) (maskL (bs k) (varL num) b.length):=by rw [h1,hab]
 rw [xorL_xorL ha (by rw [maskL_len];omega),xorL_xorL hb (by rw [maskL_len];omega)] at h2
 exact h2
noncomputable def rdRec (t:ByteArray):SRec×Bool:=@dite _ (∃ x,recText x=(t,true)) (Classical.propDecidable _) (fun h=>(h.choose,true)) (fun _=>(zRec,false))
theorem rdRec_of {t:ByteArray} {o:Option (SRec×Bool)} (h1:∃ r,o=some r∧ReadsRec t r) (h2:∀ x,recText x=(t,true)→o=some (x,true)):o=some (rdRec t):=by
 unfold rdRec
 split
 ·rename_i h
  exact h2 _ h.choose_spec
 ·rename_i h
  obtain ⟨r,hr,⟨_,k⟩ | k⟩:=h1
  ·exact absurd ⟨_,k⟩ h
  ·rw [hr,k]
theorem e_impl_rdRec {t:ByteArray} (h:t.size≤140737488351232):impl_ReadRec t=some (rdRec t):=rdRec_of (p_impl_ReadRec h) (fun _ hx=>p_impl_ReadRec_is h hx)
theorem rdRec_reads {t:ByteArray} (_:t.size≤140737488351232):ReadsRec t (rdRec t):=by
 unfold rdRec
 split
 ·rename_i h
  exact .inl ⟨rfl,h.choose_spec⟩
 ·exact .inr rfl
noncomputable def rdBook (k:ByteArray):Int→List ByteArray→List SRec×Int
 | _,[]=>([],0)
 | i,f::fs=>bif (openT k i f).2 && (rdRec (openT k i f).1).2 then ((rdRec (openT k i f).1).1::(rdBook k (i+1) fs).1,((frameT f).1.size:Int)+(rdBook k (i+1) fs).2) else ([],0)
noncomputable def readBook (k file:ByteArray):List SRec×Int:=rdBook k 1 (unfT file).1
theorem unf_small {file:ByteArray} (hs:file.size≤140737488351232):∀ (j a:Nat),a≤file.size→(∀ f ∈ (unf j file a).1,f.size≤file.size)∧(unf j file a).1.length+a≤file.size∧(unf j file a).2≤file.size:=by
 intro j
 induction j with
 | zero=>intro a ha;exact ⟨fun f hf=>(by cases hf),by simpa [unf] using ha,ha⟩
 | succ j ih=>
  intro a ha
  rw [unf]
  rcases nextF_x hs ha with h | ⟨v,q,_,hq,_,_,_,h3,_,_,h⟩
  ·rw [h];exact ⟨fun f hf=>(by cases hf),by simpa using ha,ha⟩
  ·rw [h]
   obtain ⟨i1,i2,i3⟩:=ih (q+4+v.toNat) h3
   refine ⟨fun f hf=>?_,?_,i3⟩
   ·rcases List.mem_cons.1 hf with rfl | hf
    ·show (file.extract (q+4) (q+4+v.toNat)).size≤file.size
     rw [ByteArray.size_extract];omega
    ·exact i1 f hf
   ·show (_::(unf j file (q+4+v.toNat)).1).length+a≤file.size
    rw [List.length_cons];omega
theorem unfT_small {file:ByteArray}:(∀ f ∈ (unfT file).1,f.size≤20000)∧(unfT file).1.length≤20000∧0≤(unfT file).2∧(unfT file).2≤(file.size:Int):=by
 rw [unfT]
 by_cases h:(file.size:Int) > 20000
 ·rw [decide_eq_true h]
  exact ⟨fun f hf=>(by cases hf),(by decide:0≤20000),Int.le_refl 0,by show (0:Int)≤_;omega⟩
 ·rw [decide_eq_false h]
  obtain ⟨h1,h2,h3⟩:=unf_small (file:=file) (by omega) (file.size+1) 0 (Nat.zero_le _)
  exact ⟨fun f hf=>by have:=h1 f hf;omega,by show (unf (file.size+1) file 0).1.length≤20000;omega,by show (0:Int)≤((unf (file.size+1) file 0).2:Int);omega,by show ((unf (file.size+1) file 0).2:Int)≤_;omega⟩
theorem rdBook_len (k:ByteArray):∀ (fs:List ByteArray) (i:Int),(rdBook k i fs).1.length≤fs.length:=by
 intro fs
 induction fs with
 | nil=>intro i;exact Nat.le_refl _
 | cons f fs ih=>
  intro i
  rw [rdBook]
  cases (openT k i f).2 && (rdRec (openT k i f).1).2
  ·exact Nat.zero_le _
  ·rw [cond_true,List.length_cons,List.length_cons];have:=ih (i+1);omega
theorem p_impl_ReadBook {k file:ByteArray} (hk:k.size≤900000000) (hf:file.size≤140737488351232):impl_ReadBook k file=some (readBook k file):=by
 obtain ⟨u1,u2,_,_⟩:=unfT_small (file:=file)
 rw [impl_ReadBook,E_impl_ReadBook,p_impl_Unframe hf,Option.bind_some,readBook]
 generalize (unfT file).1=l at u1 u2
 have key:∀ (j i m:Nat) (e:Int) (out:List SRec),i+j=l.length→0≤e→e≤30000*i→out.length≤i→L_impl_ReadBook (m+j+1) (.c0 k e (l.length:Int) (i:Int) out l)=some (out++(rdBook k ((i:Int)+1) (l.drop i)).1,e+(rdBook k ((i:Int)+1) (l.drop i)).2):=by
  intro j
  induction j with
  | zero=>
   intro i m e out h he he2 ho
   obtain rfl:i=l.length:=by omega
   rw [L_impl_ReadBook]
   simp only [B_impl_ReadBook]
   rw [cond_f (by simp),List.drop_length,rdBook,List.append_nil,Int.add_zero]
  | succ j ih=>
   intro i m e out h he he2 ho
   have hi:i<l.length:=by omega
   have hz:=u1 _ (List.getElem_mem hi)
   have ew:w64 ((i:Int)+1)=((i+1:Nat):Int):=by rw [w64_id (by omega) (by omega)];rfl
   have hoz:=openT_size k l[i] ((i+1:Nat):Int)
   have hfz:=frameT_size (t:=l[i]) (by omega)
   rw [show m+(j+1)+1=(m+j+1)+1 by omega,L_impl_ReadBook]
   simp only [B_impl_ReadBook,ew,Int.toNat_natCast,getD_at hi]
   rw [cond_t (by simp;omega),cond_t (by simp;omega),p_impl_OpenText hk (by omega),Option.bind_some,e_impl_rdRec (by omega),Option.bind_some,drop_at hi,rdBook,show ((i:Int)+1)=((i+1:Nat):Int) from rfl]
   cases (openT k ((i+1:Nat):Int) l[i]).2
   ·rw [Bool.false_and,cond_false,List.append_nil,Int.add_zero];rfl
   ·rw [cond_f (by rfl),Bool.true_and]
    cases (rdRec (openT k ((i+1:Nat):Int) l[i]).1).2
    ·rw [cond_false,List.append_nil,Int.add_zero];rfl
    ·have h2:=ih (i+1) m (e+((frameT l[i]).1.size:Int)) (out++[(rdRec (openT k ((i+1:Nat):Int) l[i]).1).1]) (by omega) (by omega) (by omega) (by simp;omega)
     simp only [Bool.not_true,cond_false,cond_true]
     rw [cond_t (by simp;omega),p_impl_Frame (by omega),Option.bind_some,w64_id (by omega) (by omega),h2,List.append_assoc,Int.add_assoc]
     rfl
 obtain ⟨m,hm⟩:∃ m,gas=m+l.length+1:=⟨gas - (l.length+1),by have:=gas_lt (n:=l.length+1) (by omega);omega⟩
 have h0:=key l.length 0 m 0 [] (by omega) (by omega) (by omega) (Nat.le_refl _)
 rw [List.nil_append,Int.zero_add,List.drop_zero] at h0
 rw [hm]
 exact h0
def enterAllB (b:SBook):List SRec→SBook×Bool
 | []=>(b,true)
 | r::rs=>bif (enterB b r).2 then enterAllB (enterB b r).1 rs else (zBook,false)
theorem enterB_len {b:SBook} {r:SRec} (h:(enterB b r).2=true):(enterB b r).1.fThings.length≤8:=(bookOk_iff.1 (enterB_ok h).2.2.2.1).2.2.2.1
theorem enterAll_ok {rs:List SRec}:∀ {b:SBook},bookOk b=true→(enterAllB b rs).2=true→bookOk (enterAllB b rs).1=true:=by
 induction rs with
 | nil=>intro b h _;exact h
 | cons r rs ih=>
  intro b h h2
  rw [enterAllB] at h2 ⊢
  cases h3:(enterB b r).2
  ·rw [h3] at h2;cases h2
  ·rw [h3,cond_true] at h2
   rw [cond_true]
   exact ih (enterB_ok h3).2.2.2.1 h2
theorem p_impl_EnterAll {b:SBook} {l:List SRec} (hb:b.fThings.length≤2932031007317) (hl:l.length≤140737488351232) (hr:∀ r ∈ l,r.fNum≤9223372036854775807):impl_EnterAll b l=some (enterAllB b l):=by
 have key:∀ (j i m:Nat) (b:SBook),i+j=l.length→b.fThings.length≤2932031007317→L_impl_EnterAll (m+j+1) (.c0 l (l.length:Int) (i:Int) ⟨#[]⟩ 0 0 ⟨#[]⟩ 0 b.fWord b.fTries b.fLast b.fChain b.fCount [] b.fThings)=some (enterAllB b (l.drop i)):=by
  intro j
  induction j with
  | zero=>
   intro i m b h hb
   obtain rfl:i=l.length:=by omega
   rw [L_impl_EnterAll]
   simp only [B_impl_EnterAll]
   rw [cond_f (by simp),List.drop_length];rfl
  | succ j ih=>
   intro i m b h hb
   have hi:i<l.length:=by omega
   have e:w64 ((i:Int)+1)=((i+1:Nat):Int):=by rw [w64_id (by omega) (by omega)];rfl
   rw [show m+(j+1)+1=(m+j+1)+1 by omega,L_impl_EnterAll]
   simp only [B_impl_EnterAll,e,Int.toNat_natCast,getD_at hi]
   rw [cond_t (by simp;omega),cond_t (by simp;omega),p_impl_Enter (by show b.fThings.length≤_;omega) (hr _ (List.getElem_mem hi)),Option.bind_some,drop_at hi,enterAllB]
   cases h2:(enterB b l[i]).2
   ·rfl
   ·have h3:=enterB_len h2
    rw [cond_f (by rfl),cond_true]
    exact ih (i+1) m (enterB b l[i]).1 (by omega) (by omega)
 obtain ⟨m,hm⟩:∃ m,gas=m+l.length+1:=⟨gas - (l.length+1),by have:=gas_lt (n:=l.length+1) (by omega);omega⟩
 rw [impl_EnterAll,E_impl_EnterAll,p_impl_copyBook hb,Option.bind_some,hm]
 exact key l.length 0 m b (by omega) hb
theorem nextF_size {file:ByteArray} {a:Nat} (hs:file.size≤140737488351232) (ha:a≤file.size) {p:ByteArray×Nat} (h:nextF file a=some p):p.2=a+(frameT p.1).1.size∧p.2≤file.size:=by
 rcases nextF_x hs ha with h1 | ⟨v,q,_,hq,hq2,hv1,hv2,h3,_,_,h1⟩
 ·rw [h1] at h;cases h
 ·rw [h1] at h
  cases h
  have hz:(file.extract (q+4) (q+4+v.toNat)).size=v.toNat:=by rw [ByteArray.size_extract];omega
  have hin:inR ((file.extract (q+4) (q+4+v.toNat)).size:Int) 1 9000=true:=by rw [hz,inR_iff];omega
  refine ⟨?_,h3⟩
  show q+4+v.toNat=a+(frameT (file.extract (q+4) (q+4+v.toNat))).1.size
  rw [frameT,hin,cond_true,ofBytes_size,frameL,List.length_append,List.length_append,bs_len,hz,show ((v.toNat:Nat):Int)=v by omega]
  have:(four (sumL (bs (file.extract (q+4) (q+4+v.toNat))))).length=4:=rfl
  omega
theorem rdBook_end (k:ByteArray) {file:ByteArray} (hs:file.size≤140737488351232):∀ (j a:Nat) (i:Int),a≤file.size→0≤(rdBook k i (unf j file a).1).2∧(a:Int)+(rdBook k i (unf j file a).1).2≤(file.size:Int):=by
 intro j
 induction j with
 | zero=>intro a i ha;exact ⟨Int.le_refl 0,by show (a:Int)+0≤_;omega⟩
 | succ j ih=>
  intro a i ha
  rw [unf]
  cases h:nextF file a with
  | none=>exact ⟨Int.le_refl 0,by show (a:Int)+0≤_;omega⟩
  | some p=>
   obtain ⟨h1,h2⟩:=nextF_size hs ha h
   obtain ⟨h3,h4⟩:=ih p.2 (i+1) h2
   simp only [rdBook]
   cases (openT k i p.1).2 && (rdRec (openT k i p.1).1).2
   ·exact ⟨Int.le_refl 0,by show (a:Int)+0≤_;omega⟩
   ·rw [cond_true]
    exact ⟨by simp only;omega,by simp only;omega⟩
theorem readBook_end (k file:ByteArray):0≤(readBook k file).2∧(readBook k file).2≤(file.size:Int):=by
 rw [readBook,unfT]
 by_cases h:(file.size:Int) > 20000
 ·rw [decide_eq_true h];exact ⟨Int.le_refl 0,by show (0:Int)≤_;omega⟩
 ·rw [decide_eq_false h,cond_false]
  have h2:=rdBook_end k (file:=file) (by omega) (file.size+1) 0 1 (Nat.zero_le _)
  exact ⟨h2.1,by have:=h2.2;show (rdBook k 1 (unf (file.size+1) file 0).1).2≤_;omega⟩
theorem fileT_small {d:SDisk} {n:ByteArray} {B:Nat} (hf:∀ f ∈ d.fFiles,f.fText.size≤B):(fileT d n).1.size≤B:=by
 rw [fileT]
 cases h:placeF d.fFiles n 0 with
 | none=>exact Nat.zero_le _
 | some j=>
  have h1:=(placeF_lt h).2
  show ((d.fFiles.getD j zFile).fText).size≤B
  rw [getD_at (by omega)]
  exact hf _ (List.getElem_mem _)
def nBook:ByteArray:=⟨#[98,111,111,107]⟩
def nNew:ByteArray:=⟨#[98,111,111,107,43]⟩
noncomputable def mountT (k:ByteArray) (d:SDisk):SBook×List SAct×Bool:=
 bif !(diskOk d) || !(enterAllB bookNew (readBook k (fileT d nBook).1).1).2 then (zBook,[],false)
 else ((enterAllB bookNew (readBook k (fileT d nBook).1).1).1,(bif decide (atF d nNew≥0) then [⟨4,nNew,⟨#[]⟩,⟨#[]⟩⟩] else [])++(bif (readBook k (fileT d nBook).1).2 == ((fileT d nBook).1.size:Int) then [] else [⟨1,nNew,(fileT d nBook).1.extract 0 (readBook k (fileT d nBook).1).2.toNat,⟨#[]⟩⟩,⟨2,nNew,⟨#[]⟩,⟨#[]⟩⟩,⟨3,nNew,⟨#[]⟩,nBook⟩]),true)
theorem recs_num (k:ByteArray):∀ (fs:List ByteArray) (i:Int),(∀ f ∈ fs,f.size≤20000)→∀ r ∈ (rdBook k i fs).1,r.fNum≤9223372036854775807:=by
 intro fs
 induction fs with
 | nil=>intro i _ r hr;cases hr
 | cons f fs ih=>
  intro i hf r hr
  rw [rdBook] at hr
  cases h:(openT k i f).2 && (rdRec (openT k i f).1).2
  ·rw [h] at hr;cases hr
  ·rw [h,cond_true] at hr
   rcases List.mem_cons.1 hr with rfl | hr
   ·have hz:=openT_size k f i
    have hfz:=hf f (List.mem_cons_self ..)
    rcases rdRec_reads (t:=(openT k i f).1) (by omega) with ⟨_,h2⟩ | h2
    ·have h3:(recText (rdRec (openT k i f).1).1).2=true:=by rw [h2]
     rcases recText_cases h3 with ⟨hk,_⟩ | ⟨hk,hc⟩ | ⟨hk,_⟩ | ⟨hk,hc⟩
     ·rw [recText,hk] at h3
      simp only [show ((1:Int) == 1)=true from rfl,cond_true] at h3
      cases hc:(((rdRec (openT k i f).1).1.fText.size:Int) == 32 && (rdRec (openT k i f).1).1.fNum == 0 && isZ (rdRec (openT k i f).1).1.fThing)
      ·rw [hc] at h3;cases h3
      ·rw [Bool.and_eq_true,Bool.and_eq_true,beq_iff_eq,beq_iff_eq] at hc;omega
     ·omega
     ·rw [recText,hk] at h3
      simp only [show ((3:Int) == 1)=false from rfl,show ((3:Int) == 2)=false from rfl,show ((3:Int) == 3)=true from rfl,cond_true,cond_false] at h3
      cases hc:((thingText (rdRec (openT k i f).1).1.fThing).2 && isE (rdRec (openT k i f).1).1.fText && (rdRec (openT k i f).1).1.fNum == 0)
      ·rw [hc] at h3;cases h3
      ·rw [Bool.and_eq_true,beq_iff_eq] at hc;omega
     ·omega
    ·rw [h2];exact (by decide:(0:Int)≤9223372036854775807)
   ·exact ih (i+1) (fun f hf2=>hf f (List.mem_cons_of_mem _ hf2)) r hr
theorem readBook_num (k file:ByteArray):∀ r ∈ (readBook k file).1,r.fNum≤9223372036854775807:=recs_num k _ _ (unfT_small (file:=file)).1
theorem readBook_len (k file:ByteArray):(readBook k file).1.length≤20000:=Nat.le_trans (rdBook_len k _ _) (unfT_small (file:=file)).2.1
theorem p_impl_Mount {k:ByteArray} {d:SDisk} (hk:k.size≤900000000) (hd:d.fFiles.length≤140737488351232) (hf:∀ f ∈ d.fFiles,f.fText.size≤140737488351232):impl_Mount k d=some (mountT k d):=by
 have hfs:(fileT d nBook).1.size≤140737488351232:=fileT_small hf
 obtain ⟨r1,r2⟩:=readBook_end k (fileT d nBook).1
 have hl:=readBook_len k (fileT d nBook).1
 rw [impl_Mount,E_impl_Mount,show (⟨#[98,111,111,107]⟩:ByteArray)=nBook from rfl,show (⟨#[98,111,111,107,43]⟩:ByteArray)=nNew from rfl,p_impl_FileAt hd,Option.bind_some,p_impl_ReadBook hk hfs,Option.bind_some,p_impl_BookNew,Option.bind_some,p_impl_EnterAll (Nat.zero_le _) (by omega) (readBook_num _ _),Option.bind_some,p_impl_DiskOk hd,Option.bind_some,p_impl_fileAt hd,mountT]
 cases diskOk d
 ·rfl
 cases (enterAllB bookNew (readBook k (fileT d nBook).1).1).2
 ·rfl
 simp only [Option.bind_some,Bool.not_true,Bool.or_self,cond_false]
 by_cases he:(readBook k (fileT d nBook).1).2=((fileT d nBook).1.size:Int)
 ·rw [show ((readBook k (fileT d nBook).1).2 == ((fileT d nBook).1.size:Int))=true by rw [beq_iff_eq];exact he]
  cases decide (atF d nNew≥0) <;> rfl
 ·rw [show ((readBook k (fileT d nBook).1).2 == ((fileT d nBook).1.size:Int))=false by rw [beq_eq_false_iff_ne];exact he,cond_false,cond_false]
  have hg:(decide (0≤(readBook k (fileT d nBook).1).2) && decide ((readBook k (fileT d nBook).1).2≤((fileT d nBook).1.size:Int)))=true:=by rw [Bool.and_eq_true,decide_eq_true_eq,decide_eq_true_eq];exact ⟨r1,r2⟩
  simp only [hg,cond_true]
  cases decide (atF d nNew≥0) <;> rfl
theorem p_impl_ThingOf {b:SBook} {t:Int} (h:b.fThings.length≤140737488351232):impl_ThingOf b t=some (match thingIn b.fThings t with | some x=>(x,true) | none=>(zThing,false)):=by
 have hp:=placeIn_find t b.fThings 0
 simp only [impl_ThingOf,E_impl_ThingOf,p_impl_thingAt h,Option.bind_some]
 cases hq:placeIn b.fThings t 0 with
 | none=>rw [hq] at hp;simp only at hp ⊢;rw [hp];rfl
 | some j=>
  rw [hq] at hp
  simp only [Nat.sub_zero,Nat.zero_add] at hp ⊢
  obtain ⟨_,h1,h2⟩:=hp
  rw [h2,List.getElem?_eq_getElem h1]
  simp only [Int.toNat_natCast,getD_at h1]
  rw [show (decide ((j:Int)<0))=false from decide_eq_false (by omega),show (decide ((0:Int)≤(j:Int)))=true from decide_eq_true (by omega),show (decide ((j:Int)<(b.fThings.length:Int)))=true from decide_eq_true (by omega)]
  rfl
def liveAt (b:SBox) (i:Nat):Bool:=match thingIn b.fBook.fThings (b.fLives.getD i ⟨0,0⟩).fId with
 | some x=>x.fKind == 2 && (inR (b.fLives.getD i ⟨0,0⟩).fNext 0 x.fNext && (i == 0 || !decide ((b.fLives.getD (i - 1) ⟨0,0⟩).fId≥(b.fLives.getD i ⟨0,0⟩).fId)))
 | none=>false
def livesR (b:SBox):Nat→Nat→Bool
 | 0,_=>true
 | j+1,i=>liveAt b i && livesR b j (i+1)
def livesB (b:SBox):Bool:=livesR b b.fLives.length 0
theorem p_impl_livesOk {b:SBox} (hl:b.fLives.length≤140737488351232) (ht:b.fBook.fThings.length≤140737488351232):impl_livesOk b=some (livesB b):=by
 have key:∀ (j i m:Nat),i+j=b.fLives.length→L_impl_livesOk (m+j+1) (.c0 b.fLives (b.fLives.length:Int) (i:Int) b)=some (livesR b j i):=by
  intro j
  induction j with
  | zero=>
   intro i m hi
   rw [L_impl_livesOk];simp only [B_impl_livesOk]
   rw [cond_f (by simp;omega)];rfl
  | succ j ih=>
   intro i m hi
   have hw:w64 ((i:Int)+1)=((i+1:Nat):Int):=by rw [w64_id (by omega) (by omega)];rfl
   have d1:decide ((i:Int)<(b.fLives.length:Int))=true:=decide_eq_true (by omega)
   have d0:decide ((0:Int)≤(i:Int))=true:=decide_eq_true (by omega)
   rw [show m+(j+1)+1=(m+j+1)+1 from rfl,L_impl_livesOk]
   simp only [B_impl_livesOk,p_impl_ThingOf ht,p_impl_in,Option.bind_some,d0,d1,Bool.and_self,cond_true,Int.toNat_natCast,hw,ih (i+1) m (by omega),livesR,liveAt]
   cases thingIn b.fBook.fThings (b.fLives.getD i ⟨0,0⟩).fId with
   | none=>rfl
   | some x=>
    simp only [bne]
    cases x.fKind == 2
    ·rfl
    cases inR (b.fLives.getD i ⟨0,0⟩).fNext 0 x.fNext
    ·rfl
    by_cases h0:i=0
    ·subst h0;rfl
    ·obtain ⟨k,rfl⟩:∃ k,i=k+1:=⟨i - 1,by omega⟩
     have hk:w64 (((k+1:Nat):Int) - 1)=(k:Int):=by rw [w64_id (by omega) (by omega)];omega
     rw [show decide (((k+1:Nat):Int) > 0)=true from decide_eq_true (by omega)]
     simp only [hk,Int.toNat_natCast,show decide ((0:Int)≤(k:Int))=true from decide_eq_true (by omega),show decide ((k:Int)<(b.fLives.length:Int))=true from decide_eq_true (by omega),Bool.and_self,cond_true,Nat.add_sub_cancel]
     cases decide ((b.fLives.getD k ⟨0,0⟩).fId≥(b.fLives.getD (k+1) ⟨0,0⟩).fId) <;> rfl
 obtain ⟨m,hm⟩:∃ m,gas=m+b.fLives.length+1:=⟨gas - (b.fLives.length+1),by have:=gas_lt (n:=b.fLives.length) (by omega);omega⟩
 rw [impl_livesOk,E_impl_livesOk,hm]
 exact key b.fLives.length 0 m (Nat.zero_add _)
theorem enterB_len2 (b:SBook) (r:SRec):(enterB b r).1.fThings.length≤8:=by
 cases h:(enterB b r).2
 ·have:(enterB b r).1=zBook:=by
   rw [enterB] at h ⊢
   cases hc:(!(bookOk b) || (!(recText r).2 || decide (b.fCount≥10000)))
   ·rw [hc] at h
    simp only [cond_false] at h ⊢
    cases h1:r.fKind == 1
    ·rw [h1] at h
     simp only [cond_false] at h ⊢
     cases h2:r.fKind == 2
     ·rw [h2] at h
      simp only [cond_false] at h ⊢
      cases h3:r.fKind == 3
      ·rw [h3] at h
       simp only [cond_false] at h ⊢
       cases ht:thingIn b.fThings r.fNum with
       | none=>rfl
       | some x=>rw [ht] at h;cases h
      ·rw [h3] at h
       simp only [cond_true] at h ⊢
       cases ht:putThing b r.fThing with
       | none=>rfl
       | some x=>rw [ht] at h;cases h
     ·rw [h2] at h;cases h
    ·rw [h1] at h;cases h
   ·rfl
  rw [this];exact Nat.zero_le _
 ·exact enterB_len h
theorem enterAll_len {b:SBook} {l:List SRec} (h:b.fThings.length≤2932031007317):(enterAllB b l).1.fThings.length≤2932031007317:=by
 induction l generalizing b with
 | nil=>exact h
 | cons r rs ih=>
  rw [enterAllB]
  cases h3:(enterB b r).2
  ·exact Nat.zero_le _
  ·have:=enterB_len h3
   exact ih (by omega)
theorem mountT_len (k:ByteArray) (d:SDisk):(mountT k d).1.fThings.length≤2932031007317∧(mountT k d).2.1.length≤4:=by
 rw [mountT]
 cases (!(diskOk d) || !(enterAllB bookNew (readBook k (fileT d nBook).1).1).2)
 ·refine ⟨enterAll_len (Nat.zero_le _),?_⟩
  rw [cond_false]
  show List.length (_++_)≤4
  rw [List.length_append]
  cases decide (atF d nNew≥0) <;> cases (readBook k (fileT d nBook).1).2 == ((fileT d nBook).1.size:Int) <;> simp
 ·exact ⟨Nat.zero_le _,Nat.zero_le _⟩
def sessAt (b:SBox) (i:Nat):Bool:=inR (b.fSessions.getD i ⟨0,false⟩).fId 1 b.fOpened && (i == 0 || !decide ((b.fSessions.getD (i - 1) ⟨0,false⟩).fId≥(b.fSessions.getD i ⟨0,false⟩).fId))
def sessR (b:SBox):Nat→Nat→Bool
 | 0,_=>true
 | j+1,i=>sessAt b i && sessR b j (i+1)
noncomputable def boxEnd (b:SBox):Bool:=bif b.fUp then (mountT b.fKey b.fDisk).2.2 && (((mountT b.fKey b.fDisk).2.1.length:Int) == 0 && (bookOk b.fBook && (sameB (mountT b.fKey b.fDisk).1 b.fBook && livesB b)))
 else (b.fSessions.length:Int) == 0 && ((b.fLives.length:Int) == 0 && sameB b.fBook bookNew)
noncomputable def boxOkB (b:SBox):Bool:=(b.fKey.size:Int) == 32 && (diskOk b.fDisk && (decide ((b.fSessions.length:Int)≤3) && (inR b.fOpened 0 1000 && (sessR b b.fSessions.length 0 && boxEnd b))))
theorem p_impl_BoxOk {b:SBox} (hd:b.fDisk.fFiles.length≤140737488351232) (hf:∀ f ∈ b.fDisk.fFiles,f.fText.size≤140737488351232) (ht:b.fBook.fThings.length≤140737488351232) (hs:b.fSessions.length≤140737488351232) (hl:b.fLives.length≤140737488351232):impl_BoxOk b=some (boxOkB b):=by
 rw [impl_BoxOk,E_impl_BoxOk,p_impl_DiskOk hd,p_impl_in,boxOkB]
 simp only [Option.bind_some,bne]
 cases hz:(b.fKey.size:Int) == 32
 ·rfl
 have hk:b.fKey.size≤900000000:=by rw [beq_iff_eq] at hz;omega
 obtain ⟨l1,l2⟩:=mountT_len b.fKey b.fDisk
 have key:b.fUp=true→∀ (j i m:Nat),i+j=b.fSessions.length→i≤3→L_impl_BoxOk (m+j+1) (.c0 b.fSessions (b.fSessions.length:Int) (i:Int) b)=some (decide ((b.fSessions.length:Int)≤3) && (sessR b j i && boxEnd b)):=by
  intro hup j
  induction j with
  | zero=>
   intro i m hi h3
   rw [L_impl_BoxOk];simp only [B_impl_BoxOk]
   rw [cond_f (by simp;omega),boxEnd,hup,decide_eq_true (by omega:(b.fSessions.length:Int)≤3)]
   simp only [p_impl_Mount hk hd hf,p_impl_sameBook (show (mountT b.fKey b.fDisk).1.fThings.length≤140737488351232 by omega),p_impl_BookOk ht,p_impl_livesOk hl ht,Option.bind_some]
   cases (mountT b.fKey b.fDisk).2.2 <;> cases ((mountT b.fKey b.fDisk).2.1.length:Int) == 0 <;> cases bookOk b.fBook <;> cases sameB (mountT b.fKey b.fDisk).1 b.fBook <;> rfl
  | succ j ih=>
   intro i m hi h3
   have hw:w64 ((i:Int)+1)=((i+1:Nat):Int):=by rw [w64_id (by omega) (by omega)];rfl
   have d1:decide ((i:Int)<(b.fSessions.length:Int))=true:=decide_eq_true (by omega)
   have d0:decide ((0:Int)≤(i:Int))=true:=decide_eq_true (by omega)
   rw [show m+(j+1)+1=(m+j+1)+1 from rfl,L_impl_BoxOk]
   by_cases h4:i=3
   ·simp only [B_impl_BoxOk,d0,d1,Bool.and_self,cond_true]
    rw [decide_eq_true (by omega:(i:Int)≥3),decide_eq_false (by omega:¬ (b.fSessions.length:Int)≤3)];rfl
   have d3:decide ((i:Int)≥3)=false:=decide_eq_false (by omega)
   simp only [B_impl_BoxOk,p_impl_in,Option.bind_some,d0,d1,d3,Bool.and_self,cond_true,cond_false,Int.toNat_natCast,hw,ih (i+1) m (by omega) (by omega),sessR,sessAt]
   cases inR (b.fSessions.getD i ⟨0,false⟩).fId 1 b.fOpened
   ·simp
   by_cases h0:i=0
   ·subst h0;simp
   ·obtain ⟨k,rfl⟩:∃ k,i=k+1:=⟨i - 1,by omega⟩
    have hk:w64 (((k+1:Nat):Int) - 1)=(k:Int):=by rw [w64_id (by omega) (by omega)];omega
    rw [show decide (((k+1:Nat):Int) > 0)=true from decide_eq_true (by omega)]
    simp only [hk,Int.toNat_natCast,show decide ((0:Int)≤(k:Int))=true from decide_eq_true (by omega),show decide ((k:Int)<(b.fSessions.length:Int))=true from decide_eq_true (by omega),Bool.and_self,cond_true,Nat.add_sub_cancel]
    cases decide ((b.fSessions.getD k ⟨0,false⟩).fId≥(b.fSessions.getD (k+1) ⟨0,false⟩).fId) <;> simp
 cases hdk:diskOk b.fDisk
 ·rfl
 cases ho:inR b.fOpened 0 1000
 ·simp
 cases hup:b.fUp
 ·rw [boxEnd,hup]
  simp only [p_impl_BookNew,p_impl_sameBook ht,Option.bind_some,Bool.not_false,Bool.not_true,cond_true,cond_false,Bool.true_and]
  cases hn:(b.fSessions.length:Int) == 0
  ·simp
  ·have hn0:b.fSessions.length=0:=by rw [beq_iff_eq] at hn;omega
   rw [hn0]
   cases (b.fLives.length:Int) == 0 <;> simp [sessR]
 ·obtain ⟨m,hm⟩:∃ m,gas=m+b.fSessions.length+1:=⟨gas - (b.fSessions.length+1),by have:=gas_lt (n:=b.fSessions.length) (by omega);omega⟩
  have h0:=key hup b.fSessions.length 0 m (Nat.zero_add _) (by omega)
  simp only [Bool.not_true,cond_false,Bool.true_and]
  rw [hm]
  exact h0
def callOk (c:SCall):Bool:=inR c.fOp 1 13 && inR c.fSession 0 1000 && inR c.fThing 0 1000 && inR c.fKind 0 3 && decide ((c.fText.size:Int)≤1000)
theorem p_impl_CallOk (c:SCall):impl_CallOk c=some (callOk c):=by
 simp only [impl_CallOk,E_impl_CallOk,p_impl_in,Option.bind_some,callOk]
 cases inR c.fOp 1 13 <;> cases inR c.fSession 0 1000 <;> cases inR c.fThing 0 1000 <;> cases inR c.fKind 0 3 <;> rfl
def sayR (n:Int):ByteArray:=[(⟨#[]⟩:ByteArray),⟨#[102,117,108,108]⟩,⟨#[115,101,115,115,105,111,110]⟩,⟨#[108,111,99,107,101,100]⟩,⟨#[119,111,114,100]⟩,⟨#[111,117,116]⟩,⟨#[119,114,111,110,103]⟩,⟨#[110,111,110,101]⟩,⟨#[112,111,108,105,99,121]⟩,⟨#[100,111,119,110]⟩].getD n.toNat ⟨#[]⟩
def noR (n:Int):List SRec×Int×ByteArray:=([],n,sayR n)
theorem p_impl_refused {n:Int} (h:0≤n∧n<10):impl_refused n=some (noR n):=by
 rw [impl_refused,E_impl_refused,cond_t (by simp;omega)];rfl
theorem p_impl_Decimal {n:Int} (h:0≤n∧n<100):∃ s,impl_Decimal n=some s:=by
 rw [impl_Decimal,E_impl_Decimal,strconv_Itoa,E_strconv_Itoa,internal_strconv_Itoa,E_internal_strconv_Itoa,internal_strconv_FormatInt,E_internal_strconv_FormatInt,internal_strconv_small,E_internal_strconv_small]
 rw [cond_t (by rfl),cond_t (by simp;omega),cond_t (by simp;omega),w64_id (n:=n+1) (by omega) (by omega),w64_id (n:=n*2) (by omega) (by omega),w64_id (n:=n*2+2) (by omega) (by omega)]
 by_cases h1:n<10
 ·rw [cond_t (by simp;omega),cond_t (by
   rw [Bool.and_eq_true,Bool.and_eq_true,decide_eq_true_eq,decide_eq_true_eq,decide_eq_true_eq]
   refine ⟨⟨by omega,by omega⟩,?_⟩
   show n+1≤((36:Nat):Int);omega)]
  exact ⟨_,rfl⟩
 ·rw [cond_f (by simp;omega),cond_t (by
   rw [Bool.and_eq_true,Bool.and_eq_true,decide_eq_true_eq,decide_eq_true_eq,decide_eq_true_eq]
   refine ⟨⟨by omega,by omega⟩,?_⟩
   show n*2+2≤((200:Nat):Int);omega)]
  exact ⟨_,rfl⟩
def placeS:List SSession→Int→Nat→Option Nat
 | [],_,_=>none
 | l::ls,t,i=>if l.fId == t then some i else placeS ls t (i+1)
theorem placeS_lt {t:Int}:∀ {ls:List SSession} {i j:Nat},placeS ls t i=some j→i≤j∧j<i+ls.length:=by
 intro ls
 induction ls with
 | nil=>intro i j h;cases h
 | cons f fs ih=>
  intro i j h
  rw [placeS] at h
  rw [List.length_cons]
  split at h
  ·cases h;omega
  ·have:=ih h;omega
def atS (b:SBox) (t:Int):Int:=match placeS b.fSessions t 0 with | some j=>(j:Int) | none=> -1
theorem p_impl_sessionAt {b:SBox} {t:Int} (h:b.fSessions.length≤140737488351232):impl_sessionAt b t=some (atS b t):=by
 have key:∀ (j i m:Nat),i+j=b.fSessions.length→L_impl_sessionAt (m+j+1) (.c0 t b.fSessions (b.fSessions.length:Int) (i:Int))=some (match placeS (b.fSessions.drop i) t i with | some j=>(j:Int) | none=> -1):=by
  intro j
  induction j with
  | zero=>
   intro i m hi
   rw [L_impl_sessionAt];simp only [B_impl_sessionAt]
   rw [cond_f (by simp;omega),List.drop_of_length_le (by omega)];rfl
  | succ j ih=>
   intro i m hi
   have hil:i<b.fSessions.length:=by omega
   have hw:w64 ((i:Int)+1)=((i+1:Nat):Int):=by rw [w64_id (by omega) (by omega)];rfl
   rw [show m+(j+1)+1=(m+j+1)+1 from rfl,L_impl_sessionAt]
   simp only [B_impl_sessionAt,show decide ((i:Int)<(b.fSessions.length:Int))=true from decide_eq_true (by omega),show decide ((0:Int)≤(i:Int))=true from decide_eq_true (by omega),Bool.and_self,cond_true,Int.toNat_natCast,hw,getD_at hil,ih (i+1) m (by omega)]
   rw [drop_at hil,placeS]
   cases b.fSessions[i].fId == t <;> rfl
 obtain ⟨m,hm⟩:∃ m,gas=m+b.fSessions.length+1:=⟨gas - (b.fSessions.length+1),by have:=gas_lt (n:=b.fSessions.length+1) (by omega);omega⟩
 rw [impl_sessionAt,E_impl_sessionAt,hm]
 exact key b.fSessions.length 0 m (Nat.zero_add _)
noncomputable def wordT (b:SBox) (c:SCall):List SRec×Int×ByteArray:=
 bif decide (b.fBook.fTries≥3) then noR 3
 else bif !((dig c.fText).toList == b.fBook.fWord.toList) then ([⟨2,⟨#[]⟩,b.fBook.fTries+1,⟨0,0,false,false,false,false,⟨#[]⟩,0⟩⟩],4,sayR 4)
 else bif b.fBook.fTries == 0 then ([],0,⟨#[]⟩) else ([⟨2,⟨#[]⟩,0,⟨0,0,false,false,false,false,⟨#[]⟩,0⟩⟩],0,⟨#[]⟩)
theorem p_impl_planWord {b:SBox} {c:SCall} (ht:0≤b.fBook.fTries) (hc:c.fText.size≤1000000000):impl_planWord b c=some (wordT b c):=by
 rw [impl_planWord,E_impl_planWord,wordT]
 simp only [p_impl_refused (n:=3) (by decide),p_impl_refused (n:=4) (by decide),p_impl_DigestOf hc,Option.bind_some]
 by_cases h:b.fBook.fTries≥3
 ·rw [decide_eq_true h];rfl
 ·rw [decide_eq_false h,w64_id (by omega) (by omega)]
  cases !((dig c.fText).toList == b.fBook.fWord.toList) <;> cases b.fBook.fTries == 0 <;> rfl
def fallenB (b:SBox):SBox:=⟨b.fKey,false,b.fDisk,bookNew,[],[],0⟩
theorem p_impl_Fallen {b:SBox} (h:b.fDisk.fFiles.length*40≤140737488355328):impl_Fallen b=some (fallenB b):=by
 rw [impl_Fallen,E_impl_Fallen,p_impl_copyDisk h,Option.bind_some,p_impl_BookNew];rfl
theorem enterAll_app {l k:List SRec}:∀ {b:SBook},enterAllB b (l++k)=bif (enterAllB b l).2 then enterAllB (enterAllB b l).1 k else (zBook,false):=by
 induction l with
 | nil=>intro b;rfl
 | cons r rs ih=>
  intro b
  rw [List.cons_append,enterAllB,enterAllB,ih]
  cases (enterB b r).2 <;> rfl
theorem enterAll_take {b:SBook} {l:List SRec} (w:Nat) (h:(enterAllB b l).2=true):(enterAllB b (l.take w)).2=true:=by
 have e:=enterAll_app (b:=b) (l:=l.take w) (k:=l.drop w)
 rw [List.take_append_drop] at e
 cases hc:(enterAllB b (l.take w)).2
 ·rw [e,hc] at h;cases h
 ·rfl
theorem enterAll_count {l:List SRec}:∀ {b:SBook},(enterAllB b l).2=true→(enterAllB b l).1.fCount=b.fCount+(l.length:Int):=by
 induction l with
 | nil=>intro b _;show b.fCount=b.fCount+0;omega
 | cons r rs ih=>
  intro b h
  rw [enterAllB] at h ⊢
  cases h2:(enterB b r).2
  ·rw [h2] at h;cases h
  ·rw [h2,cond_true] at h
   rw [cond_true,ih h,(enterB_ok h2).2.2.2.2.1,List.length_cons];omega
def Drawn (l:List SRec) (b:SBook):Prop:=enterAllB bookNew l=(b,true)∧bookOk b=true∧(∀ x ∈ l,x.fNum≤9223372036854775807)
theorem drawn_new:Drawn [] bookNew:=⟨rfl,bookNew_ok,fun x hx=>by cases hx⟩
theorem drawn_more {l:List SRec} {b:SBook} {r:SRec} (h:Drawn l b) (hr:r.fNum≤9223372036854775807) (he:(enterB b r).2=true):Drawn (l++[r]) (enterB b r).1:=by
 refine ⟨?_,(enterB_ok he).2.2.2.1,fun x hx=>?_⟩
 ·rw [enterAll_app,h.1,cond_true,enterAllB,he];rfl
 ·rcases List.mem_append.1 hx with hx | hx
  ·exact h.2.2 x hx
  ·rw [List.mem_singleton] at hx;rw [hx];exact hr
theorem book_ids {b:SBook} (h:bookOk b=true):∀ x ∈ b.fThings,x.fId≤1000:=fun x hx=>by
 obtain ⟨_,_,_,_,h5,_,h7⟩:=bookOk_iff.1 h
 have:=rise_all h7 x hx
 omega
def frs:List ByteArray→List Int
 | []=>[]
 | t::ts=>frameL (bs t)++frs ts
def whole:List ByteArray→Nat→Nat
 | [],_=>0
 | t::ts,K=>if (frameL (bs t)).length≤K then whole ts (K - (frameL (bs t)).length)+1 else 0
theorem frameL_len (l:List Int):(frameL l).length=(varL (l.length:Int)).length+4+l.length:=by
 have h4:(four (sumL l)).length=4:=rfl
 rw [frameL,List.length_append,List.length_append,h4];omega
theorem frs_byt:∀ ts:List ByteArray,Byt (frs ts)
 | []=>fun n hn=>by cases hn
 | t::ts=>fun n hn=>by
  rcases List.mem_append.1 hn with hn | hn
  ·exact frameL_byt (byt_bs t) n hn
  ·exact frs_byt ts n hn
theorem frs_app (ts us:List ByteArray):frs (ts++us)=frs ts++frs us:=by
 induction ts with
 | nil=>rfl
 | cons t ts ih=>rw [List.cons_append,frs,frs,ih,List.append_assoc]
theorem whole_le (ts:List ByteArray):∀ K,whole ts K≤K∧whole ts K≤ts.length∧(frs (ts.take (whole ts K))).length≤K:=by
 induction ts with
 | nil=>intro K;exact ⟨Nat.zero_le _,Nat.zero_le _,Nat.zero_le _⟩
 | cons t ts ih=>
  intro K
  rw [whole]
  split
  ·rename_i h
   obtain ⟨i1,i2,i3⟩:=ih (K - (frameL (bs t)).length)
   have:=frameL_len (bs t)
   rw [List.take_succ_cons,frs,List.length_append,List.length_cons]
   omega
  ·exact ⟨Nat.zero_le _,Nat.zero_le _,Nat.zero_le _⟩
theorem whole_all (ts:List ByteArray):∀ K,(frs ts).length≤K→whole ts K=ts.length:=by
 induction ts with
 | nil=>intro K _;rfl
 | cons t ts ih=>
  intro K h
  rw [frs,List.length_append] at h
  rw [whole,if_pos (by omega),ih _ (by omega),List.length_cons]
theorem next_whole {file l:ByteArray} {a:Nat} (hs:file.size≤140737488351232) (h1:1≤l.size) (h2:l.size≤9000) (hA:At file a (frameL (bs l))):nextF file a=some (l,a+(frameL (bs l)).length):=by
 have hA':At file a (varL (l.size:Int)++(four (sumL (bs l))++bs l)):=by rw [frameL,bs_len] at hA;exact hA
 have e1:=rdVar_is hs (by omega) (by omega) hA'.left
 have hB:=hA'.right
 have hC:=hB.right
 have h4:(four (sumL (bs l))).length=4:=rfl
 have hx4:=hB.left.extract (four_byt (sumL_r (bs l)))
 have hxl:=hC.extract (byt_bs l)
 rw [h4] at hx4 hxl hC
 rw [bs_len,ofBytes_bs] at hxl
 have hz:a+(varL (l.size:Int)).length+4+l.size≤file.size:=by
  rcases hC.size with h | h
  ·have:=congrArg List.length h;rw [bs_len,List.length_nil] at this;omega
  ·rw [bs_len] at h;exact h
 have hlen:=frameL_len (bs l)
 rw [bs_len] at hlen
 rw [nextF,e1,hlen]
 generalize (varL (l.size:Int)).length=n at hx4 hxl hz
 dsimp only
 have t0:((a+n:Nat):Int).toNat=a+n:=Int.toNat_natCast _
 have t1:(((a+n:Nat):Int)+4).toNat=a+n+4:=by omega
 have t2:(((a+n:Nat):Int)+4+(l.size:Int)).toNat=a+n+4+l.size:=by omega
 rw [t0,t1,t2,hx4,hxl,bs_ofBytes (four_byt (sumL_r (bs l))),beq_self_eq_true,inR_iff.2 (show 1≤(l.size:Int)∧(l.size:Int)≤9000 by omega),show decide ((l.size:Int)≤(file.size:Int) - ((a+n:Nat):Int) - 4)=true from decide_eq_true (by omega)]
 show some (l,a+n+4+l.size)=_
 rw [show a+n+4+l.size=a+(n+4+l.size) by omega]
theorem next_part {file l:ByteArray} {a:Nat} {rest:List Int} (hs:file.size≤140737488000000) (ha:a≤file.size) (h2:l.size≤9000) (hr:0<rest.length) (hrb:Byt rest) (hA:(bs file).drop a++rest=frameL (bs l)):nextF file a=none:=by
 rcases nextF_x (file:=file) (a:=a) (by omega) ha with h | ⟨v,q,_,hq,hq2,hv1,hv2,h3,hAv,_,_⟩
 ·exact h
 ·exfalso
  have hl:=frameL_len (bs l)
  rw [bs_len] at hl
  have hv10:=varL_len10 (n:=(l.size:Int)) (by omega)
  have hlen:=congrArg List.length hA
  rw [List.length_append,List.length_drop,bs_len] at hlen
  have hb:bs (file++ofBytes rest)=bs file++rest:=by rw [bs_append,bs_ofBytes hrb]
  have hd:(bs (file++ofBytes rest)).drop a=frameL (bs l):=by rw [hb,List.drop_append_of_le_length (by rw [bs_len];exact ha),hA]
  have hz:(file++ofBytes rest).size=file.size+rest.length:=by rw [ByteArray.size_append,ofBytes_size]
  have e1:=rdVar_is (text:=file++ofBytes rest) (a:=a) (V:=(l.size:Int)) (by omega) (by omega) (by omega) ⟨four (sumL (bs l))++bs l,by rw [hd,frameL,bs_len]⟩
  obtain ⟨x,hx⟩:=hAv
  have e2:=rdVar_is (text:=file++ofBytes rest) (a:=a) (V:=v) (by omega) (by omega) (by omega) ⟨x++rest,by rw [hb,List.drop_append_of_le_length (by rw [bs_len];exact ha),hx,List.append_assoc]⟩
  rw [e1] at e2
  have e3:(l.size:Int)=v:=congrArg Prod.fst e2
  subst e3
  omega
theorem unf_frs {file:ByteArray} (hs:file.size≤140737488000000):∀ (ts:List ByteArray) (K m a:Nat),(∀ t ∈ ts,1≤t.size∧t.size≤9000)→a≤file.size→(bs file).drop a=(frs ts).take K→whole ts K<m→unf m file a=(ts.take (whole ts K),a+(frs (ts.take (whole ts K))).length):=by
 intro ts
 induction ts with
 | nil=>
  intro K m a _ ha hd hm
  obtain ⟨m,rfl⟩:∃ n,m=n+1:=⟨m - 1,by omega⟩
  have hlen:=congrArg List.length hd
  rw [List.length_drop,bs_len,frs,List.take_nil,List.length_nil] at hlen
  rw [unf]
  rcases nextF_x (file:=file) (a:=a) (by omega) ha with h | ⟨v,q,_,hq,_,_,_,h3,_⟩
  ·rw [h];rfl
  ·omega
 | cons t ts ih=>
  intro K m a ht ha hd hm
  obtain ⟨m,rfl⟩:∃ n,m=n+1:=⟨m - 1,by omega⟩
  have ht0:=ht t (List.mem_cons_self ..)
  rw [whole] at hm ⊢
  rw [frs,List.take_append] at hd
  split at hm
  ·rename_i h
   rw [if_pos h]
   rw [List.take_of_length_le h] at hd
   have hA:At file a (frameL (bs t)):=⟨_,hd⟩
   have hz:a+(frameL (bs t)).length≤file.size:=by
    rcases hA.size with h | h
    ·have:=congrArg List.length h;rw [frameL_len,List.length_nil] at this;omega
    ·exact h
   rw [unf,next_whole (by omega) ht0.1 ht0.2 hA]
   have hd2:(bs file).drop (a+(frameL (bs t)).length)=(frs ts).take (K - (frameL (bs t)).length):=by
    rw [←List.drop_drop,hd,List.drop_left]
   dsimp only
   rw [ih _ m _ (fun x hx=>ht x (List.mem_cons_of_mem _ hx)) hz hd2 (by omega),List.take_succ_cons,frs,List.length_append]
   rw [Nat.add_assoc]
  ·rename_i h
   rw [if_neg h]
   rw [show K - (frameL (bs t)).length=0 by omega,List.take_zero,List.append_nil] at hd
   rw [unf,next_part (file:=file) (l:=t) (rest:=(frameL (bs t)).drop K) hs ha ht0.2 (by rw [List.length_drop];omega) (fun n hn=>frameL_byt (byt_bs t) n (List.mem_of_mem_drop hn)) (by rw [hd,List.take_append_drop])]
   rfl
theorem sealL_len (k:List Int) (num:Int) (s:List Int):(sealL k num s).length=s.length+16:=by rw [sealL,List.length_append,xorL_len (by rw [maskL_len];omega),tagL_len]
theorem sealL_byt (k:List Int) (num:Int) (s:List Int):Byt (sealL k num s):=fun x hx=>by
 rcases List.mem_append.1 hx with hx | hx
 ·exact xorL_byt _ _ x hx
 ·exact tagL_byt _ _ _ x hx
theorem lockT_size (k s:ByteArray) (num:Int):(lockT k num s).1.size≤s.size+16:=by
 rw [lockT]
 cases maskOk num s.size
 ·exact Nat.zero_le _
 ·show (ofBytes (sealL (bs k) num (bs s))).size≤_
  rw [ofBytes_size,sealL_len,bs_len];omega
theorem open_lock {k s:ByteArray} {num:Int} (h:(lockT k num s).2=true):openT k num (lockT k num s).1=(s,true)∧(lockT k num s).1.size=s.size+16:=by
 rw [lockT] at h ⊢
 cases hm:maskOk num s.size
 ·rw [hm] at h;cases h
 ·rw [cond_true]
  exact ⟨by show openT k num (ofBytes (sealL (bs k) num (bs s)))=_;rw [open_seal (byt_bs s) (by rw [bs_len];exact hm),ofBytes_bs],by show (ofBytes (sealL (bs k) num (bs s))).size=_;rw [ofBytes_size,sealL_len,bs_len]⟩
theorem lock_open {k t:ByteArray} {num:Int} (h:(openT k num t).2=true):lockT k num (openT k num t).1=(t,true):=by
 obtain ⟨h1,h2,h3,h4,h5⟩:=openT_true h
 have hl:((bs t).take (t.size - 16)).length=t.size - 16:=by rw [List.length_take,bs_len];omega
 have hx:(openT k num t).1.size=t.size - 16:=by rw [←bs_len,h4,xorL_len (by rw [maskL_len];omega),hl]
 rw [lockT,hx,show ((t.size - 16:Nat):Int)=(t.size:Int) - 16 by omega,h2,cond_true,seal_open h,ofBytes_bs]
def tx (k:ByteArray):Int→List SRec→List ByteArray
 | _,[]=>[]
 | i,r::rs=>(lockT k i (recText r).1).1::tx k (i+1) rs
theorem tx_len (k:ByteArray):∀ (l:List SRec) (i:Int),(tx k i l).length=l.length
 | [],_=>rfl
 | r::rs,i=>by rw [tx,List.length_cons,List.length_cons,tx_len k rs]
theorem tx_take (k:ByteArray):∀ (l:List SRec) (i:Int) (w:Nat),(tx k i l).take w=tx k i (l.take w)
 | [],_,w=>by rw [tx,List.take_nil,List.take_nil,tx]
 | r::rs,i,0=>rfl
 | r::rs,i,w+1=>by rw [tx,List.take_succ_cons,List.take_succ_cons,tx,tx_take k rs]
theorem tx_app (k:ByteArray):∀ (l q:List SRec) (i:Int),tx k i (l++q)=tx k i l++tx k (i+l.length) q
 | [],q,i=>by rw [List.nil_append,tx,List.nil_append,List.length_nil];simp
 | r::rs,q,i=>by
  rw [List.cons_append,tx,tx,tx_app k rs,List.length_cons,List.cons_append]
  rw [show i+1+(rs.length:Int)=i+((rs.length+1:Nat):Int) by omega]
def Sound (l:List SRec):Prop:=∀ r ∈ l,(recText r).2=true
theorem tx_size (k:ByteArray):∀ (l:List SRec) (i:Int),0≤i→i+l.length≤1000000000→∀ t ∈ tx k i l,1≤t.size∧t.size≤320
 | [],_,_,_,t,ht=>by cases ht
 | r::rs,i,h0,h1,t,ht=>by
  rw [List.length_cons] at h1
  rw [tx] at ht
  rcases List.mem_cons.1 ht with rfl | ht
  ·have:=(lock_ok (k:=k) (s:=(recText r).1) (num:=i) (by omega) (by have:=recText_size r;omega)).2.2
   have:=recText_size r
   omega
  ·exact tx_size k rs (i+1) (by omega) (by omega) t ht
theorem rdRec_is {r:SRec} (h:(recText r).2=true):rdRec (recText r).1=(r,true):=by
 have:=recText_size r
 have e1:=e_impl_rdRec (t:=(recText r).1) (by omega)
 rw [p_impl_ReadRec_is (text:=(recText r).1) (x:=r) (by omega) (Prod.ext rfl h)] at e1
 exact (Option.some.inj e1).symm
theorem rdBook_tx (k:ByteArray):∀ (l:List SRec) (i:Int),0≤i→i+l.length≤1000000000→Sound l→rdBook k i (tx k i l)=(l,((frs (tx k i l)).length:Int))
 | [],_,_,_,_=>rfl
 | r::rs,i,h0,h1,hs=>by
  rw [List.length_cons] at h1
  have hz:=recText_size r
  obtain ⟨l1,l2,l3⟩:=lock_ok (k:=k) (s:=(recText r).1) (num:=i) (by omega) (by omega)
  obtain ⟨f1,f2⟩:=frame_ok (t:=(lockT k i (recText r).1).1) (by omega)
  rw [tx,rdBook,(open_lock l1).1]
  dsimp only
  rw [rdRec_is (hs r (List.mem_cons_self ..)),rdBook_tx k rs (i+1) (by omega) (by omega) (fun x hx=>hs x (List.mem_cons_of_mem _ hx)),f2,ofBytes_size,frs,List.length_append]
  show (r::rs,_)=_
  refine congrArg (fun n=>(r::rs,n)) ?_
  show ((frameL _).length:Int)+((frs _).length:Int)=_
  omega
theorem frs_small (k:ByteArray) (ts:List ByteArray) (h:∀ t ∈ ts,1≤t.size∧t.size≤320):(frs ts).length≤334*ts.length:=by
 induction ts with
 | nil=>exact Nat.le_refl 0
 | cons t ts ih=>
  have h1:=ih fun x hx=>h x (List.mem_cons_of_mem _ hx)
  have h2:=h t (List.mem_cons_self ..)
  have h3:=frameL_len (bs t)
  rw [bs_len] at h3
  have h4:=varL_len10 (n:=(t.size:Int)) (by omega)
  rw [frs,List.length_append,List.length_cons];omega
theorem readBook_cut {k file:ByteArray} {l:List SRec} {K:Nat} (hl:l.length≤50) (hs:Sound l) (hK:K≤(frs (tx k 1 l)).length) (hf:bs file=(frs (tx k 1 l)).take K):readBook k file=(l.take (whole (tx k 1 l) K),((frs (tx k 1 (l.take (whole (tx k 1 l) K)))).length:Int)):=by
 have hsz:=tx_size k l 1 (by omega) (by omega)
 have hsm:=frs_small k _ hsz
 rw [tx_len] at hsm
 have hlen:file.size=K:=by rw [←bs_len,hf,List.length_take];omega
 obtain ⟨w1,w2,w3⟩:=whole_le (tx k 1 l) K
 have hu:=unf_frs (file:=file) (by omega) (tx k 1 l) K (file.size+1) 0 (fun t ht=>by have:=hsz t ht;omega) (Nat.zero_le _) (by rw [List.drop_zero];exact hf) (by omega)
 rw [readBook,unfT,show decide ((file.size:Int) > 20000)=false from decide_eq_false (by omega),cond_false,hu]
 dsimp only
 rw [tx_take]
 exact rdBook_tx k _ 1 (by omega) (by rw [List.length_take];omega) (fun r hr=>hs r (List.mem_of_mem_take hr))
theorem enterAll_sound {l:List SRec}:∀ {b:SBook},(enterAllB b l).2=true→Sound l:=by
 induction l with
 | nil=>intro b _ r hr;cases hr
 | cons x xs ih=>
  intro b h r hr
  rw [enterAllB] at h
  cases h2:(enterB b x).2
  ·rw [h2] at h;cases h
  ·rw [h2,cond_true] at h
   rcases List.mem_cons.1 hr with rfl | hr
   ·exact (enterB_ok h2).2.1
   ·exact ih h r hr
theorem drawn_sound {l:List SRec} {b:SBook} (h:Drawn l b):Sound l:=enterAll_sound (b:=bookNew) (by rw [h.1])
def dk (F:ByteArray) (n:Int):SDisk:=⟨[⟨nBook,F,n⟩]⟩
theorem nil_app (G:ByteArray):(⟨#[]⟩:ByteArray)++G=G:=bs_inj (by rw [bs_append,bs_nil,List.nil_append])
theorem nb_ne:(nBook.toList == nNew.toList)=false:=by
 rw [toList_inj]
 exact decide_eq_false fun h=>absurd (congrArg ByteArray.size h) (by decide)
theorem less_nb:Op.bytesLess nBook.toList nNew.toList=true:=by rw [ByteArray.toList_eq,ByteArray.toList_eq];rfl
theorem place0 {f:SFile} {fs:List SFile} {n:ByteArray} {i:Nat} (h:(f.fName.toList == n.toList)=true):placeF (f::fs) n i=some i:=by rw [placeF,if_pos h]
theorem place1 {f:SFile} {fs:List SFile} {n:ByteArray} {i:Nat} (h:(f.fName.toList == n.toList)=false):placeF (f::fs) n i=placeF fs n (i+1):=by rw [placeF,h];rfl
theorem fOk1 {N F:ByteArray} {n:Int} (hN:1≤N.size∧N.size≤8) (h:0≤n∧n≤(F.size:Int)) (hF:F.size≤20000):fOk ⟨N,F,n⟩=true:=fOk_iff.2 ⟨⟨by show 1≤(N.size:Int);omega,by show (N.size:Int)≤8;omega⟩,by show (F.size:Int)≤20000;omega,h.1,h.2⟩
theorem diskOk1 {F:ByteArray} {n:Int} (h:0≤n∧n≤(F.size:Int)) (hF:F.size≤20000):diskOk (dk F n)=true:=by
 rw [dk,diskOk,dRise,dRise,fOk1 (by decide) h hF,less_nil (s:=nBook) (by decide)];rfl
theorem diskOk2 {F G:ByteArray} {n m:Int} (h:0≤n∧n≤(F.size:Int)) (hF:F.size≤20000) (h2:0≤m∧m≤(G.size:Int)) (hG:G.size≤20000):diskOk ⟨[⟨nBook,F,n⟩,⟨nNew,G,m⟩]⟩=true:=by
 rw [diskOk,dRise,dRise,dRise,fOk1 (by decide) h hF,fOk1 (by decide) h2 hG,less_nil (s:=nBook) (by decide),less_nb];rfl
theorem put1 (F F':ByteArray) (n n':Int):putL [⟨nBook,F,n⟩] ⟨nBook,F',n'⟩=[⟨nBook,F',n'⟩]:=by
 simp [putL,lowL,highL,less_irr]
theorem put2 (F G:ByteArray) (n m:Int):putL [⟨nBook,F,n⟩] ⟨nNew,G,m⟩=[⟨nBook,F,n⟩,⟨nNew,G,m⟩]:=by
 simp [putL,lowL,highL,less_nb]
theorem put3 (F G G':ByteArray) (n m m':Int):putL [⟨nBook,F,n⟩,⟨nNew,G,m⟩] ⟨nNew,G',m'⟩=[⟨nBook,F,n⟩,⟨nNew,G',m'⟩]:=by
 simp [putL,lowL,highL,less_nb,less_irr]
theorem out2 (F G:ByteArray) (n m:Int):outL [⟨nBook,F,n⟩,⟨nNew,G,m⟩] nNew=[⟨nBook,F,n⟩]:=by
 simp [outL,nb_ne]
theorem done_ok {l:List SFile} (h:diskOk ⟨l⟩=true):doneD l=(⟨l⟩,true):=by rw [doneD,h];rfl
theorem act_new {T:ByteArray} (hT:T.size≤20000):actT ⟨[]⟩ ⟨1,nBook,T,⟨#[]⟩⟩=(dk T 0,true):=by
 simp only [actT,show diskOk ⟨[]⟩=true from rfl,toList_self,Bool.or_true,beq_self_eq_true,Bool.true_or,Bool.and_self,cond_true,placeF,nil_app]
 rw [show putL [] (⟨nBook,T,0⟩:SFile)=[⟨nBook,T,0⟩] from rfl,done_ok (diskOk1 (by omega) hT)];rfl
theorem act_add {F T:ByteArray} {n:Int} (h:0≤n∧n≤(F.size:Int)) (hF:(F++T).size≤20000):actT (dk F n) ⟨1,nBook,T,⟨#[]⟩⟩=(dk (F++T) n,true):=by
 have hz:(F++T).size=F.size+T.size:=ByteArray.size_append
 have hp:placeF (dk F n).fFiles nBook 0=some 0:=place0 (toList_self _)
 simp only [actT,diskOk1 h (show F.size≤20000 by omega),toList_self,Bool.or_true,beq_self_eq_true,Bool.true_or,Bool.and_self,cond_true,hp]
 show doneD (putL [⟨nBook,F,n⟩] ⟨nBook,F++T,n⟩)=_
 rw [put1,done_ok (diskOk1 (by omega) hF)];rfl
theorem act_keep {F:ByteArray} {n:Int} (h:0≤n∧n≤(F.size:Int)) (hF:F.size≤20000):actT (dk F n) ⟨2,nBook,⟨#[]⟩,⟨#[]⟩⟩=(dk F F.size,true):=by
 have hp:placeF (dk F n).fFiles nBook 0=some 0:=place0 (toList_self _)
 simp only [actT,diskOk1 h hF,toList_self,Bool.or_true,beq_self_eq_true,Bool.true_or,Bool.and_self,cond_true,hp]
 show doneD (putL [⟨nBook,F,n⟩] ⟨nBook,F,(F.size:Int)⟩)=_
 rw [put1,done_ok (diskOk1 (by omega) hF)];rfl
def bookDo (T:ByteArray):List SAct:=[⟨1,nBook,T,⟨#[]⟩⟩,⟨2,nBook,⟨#[]⟩,⟨#[]⟩⟩]
theorem do_new {T:ByteArray} (hT:T.size≤20000):actsT ⟨[]⟩ (bookDo T) 0=(dk T T.size,2):=by
 rw [bookDo,actsT,act_new hT,actsT,act_keep (by omega) hT];rfl
theorem do_add {F T:ByteArray} {n:Int} (h:0≤n∧n≤(F.size:Int)) (hF:(F++T).size≤20000):actsT (dk F n) (bookDo T) 0=(dk (F++T) (F++T).size,2):=by
 have hz:(F++T).size=F.size+T.size:=ByteArray.size_append
 rw [bookDo,actsT,act_add h hF,actsT,act_keep (by omega) hF];rfl
def mendDo (G:ByteArray):List SAct:=[⟨1,nNew,G,⟨#[]⟩⟩,⟨2,nNew,⟨#[]⟩,⟨#[]⟩⟩,⟨3,nNew,⟨#[]⟩,nBook⟩]
theorem mend1 {F G:ByteArray} {n:Int} (h:0≤n∧n≤(F.size:Int)) (hF:F.size≤20000) (hG:G.size≤20000):actT (dk F n) ⟨1,nNew,G,⟨#[]⟩⟩=(⟨[⟨nBook,F,n⟩,⟨nNew,G,0⟩]⟩,true):=by
 have hp:placeF (dk F n).fFiles nNew 0=none:=place1 nb_ne
 simp only [actT,diskOk1 h hF,toList_self,Bool.or_true,beq_self_eq_true,Bool.true_or,Bool.and_self,cond_true,hp,nil_app]
 show doneD (putL [⟨nBook,F,n⟩] ⟨nNew,G,0⟩)=_
 rw [put2,done_ok (diskOk2 h hF (by omega) hG)]
theorem mend2 {F G:ByteArray} {n:Int} (h:0≤n∧n≤(F.size:Int)) (hF:F.size≤20000) (hG:G.size≤20000):actT ⟨[⟨nBook,F,n⟩,⟨nNew,G,0⟩]⟩ ⟨2,nNew,⟨#[]⟩,⟨#[]⟩⟩=(⟨[⟨nBook,F,n⟩,⟨nNew,G,(G.size:Int)⟩]⟩,true):=by
 have hp:placeF [(⟨nBook,F,n⟩:SFile),⟨nNew,G,0⟩] nNew 0=some 1:=by rw [place1 nb_ne,place0 (toList_self _)]
 simp only [actT,diskOk2 h hF (m:=0) (G:=G) (by omega) hG,toList_self,Bool.or_true,beq_self_eq_true,Bool.true_or,Bool.and_self,cond_true,hp]
 show doneD (putL [⟨nBook,F,n⟩,⟨nNew,G,0⟩] ⟨nNew,G,(G.size:Int)⟩)=_
 rw [put3,done_ok (diskOk2 h hF (by omega) hG)]
theorem mend3 {F G:ByteArray} {n:Int} (h:0≤n∧n≤(F.size:Int)) (hF:F.size≤20000) (hG:G.size≤20000):actT ⟨[⟨nBook,F,n⟩,⟨nNew,G,(G.size:Int)⟩]⟩ ⟨3,nNew,⟨#[]⟩,nBook⟩=(dk G G.size,true):=by
 have hp:placeF [(⟨nBook,F,n⟩:SFile),⟨nNew,G,(G.size:Int)⟩] nNew 0=some 1:=by rw [place1 nb_ne,place0 (toList_self _)]
 simp only [actT,diskOk2 h hF (m:=(G.size:Int)) (G:=G) (by omega) hG,toList_self,Bool.or_true,beq_self_eq_true,Bool.true_or,Bool.and_self,cond_true,hp]
 show (bif decide ((G.size:Int)<(G.size:Int)) || (nBook.toList == nNew.toList) then _ else doneD (putL (outL [⟨nBook,F,n⟩,⟨nNew,G,(G.size:Int)⟩] nNew) ⟨nBook,G,(G.size:Int)⟩))=_
 rw [decide_eq_false (by omega),nb_ne,Bool.or_self,cond_false,out2,put1,done_ok (diskOk1 (by omega) hG)];rfl
theorem do_mend {F G:ByteArray} {n:Int} (h:0≤n∧n≤(F.size:Int)) (hF:F.size≤20000) (hG:G.size≤20000):actsT (dk F n) (mendDo G) 0=(dk G G.size,3):=by
 rw [mendDo,actsT,mend1 h hF hG,cond_true,actsT,mend2 h hF hG,cond_true,actsT,mend3 h hF hG];rfl
theorem file_dk (F:ByteArray) (n:Int):fileT (dk F n) nBook=(F,true):=by
 rw [fileT,show placeF (dk F n).fFiles nBook 0=some 0 from place0 (toList_self _)];rfl
theorem at_dk (F:ByteArray) (n:Int):atF (dk F n) nNew = -1:=by
 rw [atF,show placeF (dk F n).fFiles nNew 0=none from place1 nb_ne]
theorem mount_dk {k F:ByteArray} {l:List SRec} {n:Int} {K:Nat} (hl:l.length≤50) (hs:Sound l) (he:(enterAllB bookNew l).2=true) (hK:K≤(frs (tx k 1 l)).length) (hf:bs F=(frs (tx k 1 l)).take K) (hn:0≤n∧n≤(F.size:Int)) (hF:F.size≤20000) :
  mountT k (dk F n)=((enterAllB bookNew (l.take (whole (tx k 1 l) K))).1,bif ((frs (tx k 1 (l.take (whole (tx k 1 l) K)))).length:Int) == (F.size:Int) then [] else mendDo (F.extract 0 (frs (tx k 1 (l.take (whole (tx k 1 l) K)))).length),true):=by
 rw [mountT,diskOk1 hn hF,file_dk,readBook_cut hl hs hK hf]
 dsimp only
 rw [enterAll_take _ he,at_dk]
 cases ((frs (tx k 1 (l.take (whole (tx k 1 l) K)))).length:Int) == (F.size:Int) <;> rfl
theorem mount_no (k:ByteArray):mountT k ⟨[]⟩=(bookNew,[],true):=by
 have h:readBook k ⟨#[]⟩=([],0):=readBook_cut (k:=k) (file:=⟨#[]⟩) (l:=[]) (K:=0) (Nat.zero_le _) (fun r hr=>by cases hr) (Nat.le_refl _) rfl
 rw [mountT,show fileT ⟨[]⟩ nBook=(⟨#[]⟩,false) from rfl,h]
 rfl
theorem whole_ge (ts:List ByteArray):∀ (j K:Nat),j≤ts.length→(frs (ts.take j)).length≤K→j≤whole ts K:=by
 induction ts with
 | nil=>intro j K hj _;rw [List.length_nil] at hj;exact Nat.le_trans hj (Nat.zero_le _)
 | cons t ts ih=>
  intro j K hj h
  cases j with
  | zero=>exact Nat.zero_le _
  | succ j=>
   rw [List.take_succ_cons,frs,List.length_append] at h
   rw [List.length_cons] at hj
   rw [whole,if_pos (by omega)]
   have:=ih j (K - (frameL (bs t)).length) (by omega) (by omega)
   omega
def Small (d:SDisk):Prop:=d.fFiles.length≤1∧∀ f ∈ d.fFiles,f.fText.size≤20000
theorem small_no:Small ⟨[]⟩:=⟨Nat.zero_le _,fun f hf=>by cases hf⟩
theorem small_dk {F:ByteArray} {n:Int} (h:F.size≤20000):Small (dk F n):=⟨Nat.le_refl _,fun f hf=>by
 have hf:f ∈ [(⟨nBook,F,n⟩:SFile)]:=hf
 rw [List.mem_singleton] at hf
 subst hf;exact h⟩
theorem w_succ {k:ByteArray} {l:List SRec} {i:Nat} (h:i<l.length):frs (tx k 1 (l.take (i+1)))=frs (tx k 1 (l.take i))++frameL (bs (lockT k ((i:Int)+1) (recText l[i]).1).1):=by
 rw [take_at h,tx_app,frs_app,List.length_take,Nat.min_eq_left (by omega),show (1:Int)+(i:Int)=(i:Int)+1 by omega,tx,tx,frs,frs,List.append_nil]
theorem w_small {k:ByteArray} {l:List SRec} (hl:l.length≤50) (i:Nat):(frs (tx k 1 (l.take i))).length≤16700:=by
 have hz:(l.take i).length≤50:=by rw [List.length_take];omega
 have h:=frs_small k _ (tx_size k (l.take i) 1 (by omega) (by omega))
 rw [tx_len] at h
 omega
def OnD (k:ByteArray) (l:List SRec) (i:Nat) (d:SDisk):Prop:=(i=0∧d=⟨[]⟩)∨∃ F:ByteArray,d=dk F F.size∧bs F=frs (tx k 1 (l.take i))
theorem acts_ok {k:ByteArray} {r:SRec} {i:Nat} (hr:(recText r).2=true) (hi:i≤10000):∃ T,bookActs k (i:Int) r=(bookDo T,true)∧bs T=frameL (bs (lockT k ((i:Int)+1) (recText r).1).1):=by
 have hz:=recText_size r
 obtain ⟨l1,l2,l3⟩:=lock_ok (k:=k) (s:=(recText r).1) (num:=(i:Int)+1) (by omega) (by omega)
 obtain ⟨f1,f2⟩:=frame_ok (t:=(lockT k ((i:Int)+1) (recText r).1).1) (by omega)
 refine ⟨(frameT (lockT k ((i:Int)+1) (recText r).1).1).1,?_,by rw [f2,bs_ofBytes (frameL_byt (byt_bs _))]⟩
 rw [bookActs,hr,inR_iff.2 (show 0≤(i:Int)∧(i:Int)≤10000 by omega)]
 generalize (frameT (lockT k ((i:Int)+1) (recText r).1).1).1=T
 rfl
theorem small_on {k:ByteArray} {l:List SRec} {i:Nat} {d:SDisk} (hl:l.length≤50) (h:OnD k l i d):Small d:=by
 rcases h with ⟨_,rfl⟩ | ⟨F,rfl,hF⟩
 ·exact small_no
 ·have:=w_small (k:=k) hl i
  exact small_dk (by rw [←bs_len,hF];omega)
theorem t_small {k T:ByteArray} {l:List SRec} {i:Nat} (hl:l.length≤50) (hi:i<l.length) (hT:bs T=frameL (bs (lockT k ((i:Int)+1) (recText l[i]).1).1)):(frs (tx k 1 (l.take i))).length+T.size≤16700:=by
 have h:=congrArg List.length (w_succ (k:=k) hi)
 have h2:=w_small (k:=k) hl (i+1)
 rw [List.length_append,←hT,bs_len] at h
 omega
theorem on_step {k T:ByteArray} {l:List SRec} {i:Nat} {d:SDisk} (hl:l.length≤50) (hi:i<l.length) (h:OnD k l i d) (hT:bs T=frameL (bs (lockT k ((i:Int)+1) (recText l[i]).1).1)):∃ E:ByteArray,actsT d (bookDo T) 0=(dk E E.size,2)∧bs E=frs (tx k 1 (l.take (i+1))):=by
 have hs:=t_small hl hi hT
 rcases h with ⟨rfl,rfl⟩ | ⟨F,rfl,hF⟩
 ·exact ⟨T,do_new (by omega),by rw [w_succ hi,←hT];rfl⟩
 ·have hz:(F++T).size=F.size+T.size:=ByteArray.size_append
  have hF2:F.size=(frs (tx k 1 (l.take i))).length:=by rw [←bs_len,hF]
  exact ⟨F++T,do_add (by omega) (by omega),by rw [bs_append,hF,w_succ hi,←hT]⟩
theorem mount_all {k F:ByteArray} {l:List SRec} {n:Int} (hl:l.length≤50) (hs:Sound l) (he:(enterAllB bookNew l).2=true) (hf:bs F=frs (tx k 1 l)) (hn:0≤n∧n≤(F.size:Int)):mountT k (dk F n)=((enterAllB bookNew l).1,[],true):=by
 have hsm:=w_small (k:=k) hl l.length
 rw [List.take_length] at hsm
 have hF:F.size=(frs (tx k 1 l)).length:=by rw [←bs_len,hf]
 have h:=mount_dk (k:=k) (F:=F) (l:=l) (n:=n) (K:=(frs (tx k 1 l)).length) hl hs he (Nat.le_refl _) (by rw [List.take_of_length_le (Nat.le_refl _)];exact hf) hn (by omega)
 rw [whole_all _ _ (Nat.le_refl _),tx_len,List.take_length,←hF,beq_self_eq_true,cond_true] at h
 exact h
theorem newbox {k w:ByteArray} (hk:k.size=32) (hw:w.size≤20):∃ T:ByteArray,boxNewT k w=(⟨k,true,dk T T.size,(enterB bookNew (recWord w)).1,[],[],0⟩,true)∧T.size≤20000∧bs T=frs (tx k 1 [recWord w]):=by
 have hr:(recText (recWord w)).2=true:=by rw [recWord_text]
 obtain ⟨T,t1,t2⟩:=acts_ok (k:=k) (r:=recWord w) (i:=0) hr (Nat.zero_le _)
 have hT:bs T=frs (tx k 1 [recWord w]):=by
  rw [t2,tx,tx,frs,frs,List.append_nil,show ((0:Nat):Int)+1=1 by omega]
 have hsm:=frs_small k _ (tx_size k [recWord w] 1 (by omega) (by rw [List.length_singleton];omega))
 rw [tx_len,List.length_singleton,←hT,bs_len] at hsm
 have t1:bookActs k 0 (recWord w)=(bookDo T,true):=t1
 refine ⟨T,?_,by omega,hT⟩
 rw [boxNewT,t1]
 dsimp only
 rw [do_new (by omega),show ((k.size:Int) == 32)=true by rw [hk];rfl,show decide ((w.size:Int) > 20)=false from decide_eq_false (by omega)]
 rfl
theorem newbox_mount {k w T:ByteArray} (hT:bs T=frs (tx k 1 [recWord w])) {n:Int} (hn:0≤n∧n≤(T.size:Int)):mountT k (dk T n)=((enterB bookNew (recWord w)).1,[],true):=by
 have hr:(recText (recWord w)).2=true:=by rw [recWord_text]
 have he:enterAllB bookNew [recWord w]=((enterB bookNew (recWord w)).1,true):=by rw [enterAllB,enterB_word];rfl
 have h:=mount_all (k:=k) (F:=T) (l:=[recWord w]) (n:=n) (by rw [List.length_singleton];omega) (fun r hm=>by rw [List.mem_singleton] at hm;rw [hm];exact hr) (by rw [he]) hT hn
 rw [he] at h
 exact h
theorem newbox_ok {k w T:ByteArray} (hk:k.size=32) (hT:bs T=frs (tx k 1 [recWord w])) (hz:T.size≤20000):boxOkB ⟨k,true,dk T T.size,(enterB bookNew (recWord w)).1,[],[],0⟩=true:=by
 have hb:=(enterB_ok (enterB_word w)).2.2.2.1
 rw [boxOkB,boxEnd]
 simp only [newbox_mount hT (n:=(T.size:Int)) (by omega),diskOk1 (F:=T) (n:=(T.size:Int)) (by omega) hz,hb,sameB_iff.2 rfl,hk,cond_true]
 rfl
theorem fallen_ok {b:SBox} (hk:b.fKey.size=32) (hd:diskOk b.fDisk=true):boxOkB (fallenB b)=true:=by
 rw [boxOkB,boxEnd,fallenB]
 simp only [hd,sameB_iff.2 rfl,hk,cond_false]
 rfl
def CutD (k:ByteArray) (l:List SRec) (i:Nat) (c:SDisk):Prop:=(i=0∧c=⟨[]⟩)∨∃ (X:ByteArray) (K:Nat) (n:Int),c=dk X n∧(0≤n∧n≤(X.size:Int))∧bs X=(frs (tx k 1 l)).take K∧(frs (tx k 1 (l.take i))).length≤K∧K≤(frs (tx k 1 l)).length
theorem cut_mount {k:ByteArray} {l:List SRec} {i:Nat} {c:SDisk} {b:SBook} (hl:l.length≤50) (hi:i+1=l.length) (hs:Sound l) (he:enterAllB bookNew l=(b,true)) (h:CutD k l i c):∃ (x:SBook) (todo:List SAct) (f:SDisk),mountT k c=(x,todo,true)∧(x=b∨x=(enterAllB bookNew (l.take i)).1)∧actsT c todo 0=(f,(todo.length:Int))∧mountT k f=(x,[],true)∧Small c∧Small f∧todo.length≤3∧∀ a ∈ todo,a.fText.size≤20000:=by
 have he2:(enterAllB bookNew l).2=true:=by rw [he]
 rcases h with ⟨rfl,rfl⟩ | ⟨X,K,n,rfl,hn,hX,hK1,hK2⟩
 ·exact ⟨bookNew,[],⟨[]⟩,mount_no k,.inr rfl,rfl,mount_no k,small_no,small_no,Nat.zero_le _,fun a ha=>by cases ha⟩
 ·have hsm:=w_small (k:=k) hl l.length
  rw [List.take_length] at hsm
  have hXs:X.size=K:=by rw [←bs_len,hX,List.length_take];omega
  have hm:=mount_dk (k:=k) (n:=n) hl hs he2 hK2 hX hn (by omega)
  obtain ⟨w1,w2,w3⟩:=whole_le (tx k 1 l) K
  have w4:=whole_ge (tx k 1 l) i K (by rw [tx_len];omega) (by rw [tx_take];exact hK1)
  rw [tx_len] at w2
  rw [tx_take] at w3
  generalize whole (tx k 1 l) K=w at hm w2 w3 w4
  have hx:(enterAllB bookNew (l.take w)).1=b∨(enterAllB bookNew (l.take w)).1=(enterAllB bookNew (l.take i)).1:=by
   by_cases hw:w=i
   ·right;rw [hw]
   ·left;rw [List.take_of_length_le (by omega),he]
  have hX2:X.size≤20000:=by omega
  by_cases hc:((frs (tx k 1 (l.take w))).length:Int)=(X.size:Int)
  ·rw [beq_iff_eq.2 hc,cond_true] at hm
   exact ⟨_,[],_,hm,hx,rfl,hm,small_dk hX2,small_dk hX2,Nat.zero_le _,fun a ha=>by cases ha⟩
  ·rw [beq_eq_false_iff_ne.2 hc,cond_false] at hm
   have hpre:frs (tx k 1 l)=frs (tx k 1 (l.take w))++frs (tx k (1+((l.take w).length:Int)) (l.drop w)):=by
    rw [←frs_app,←tx_app,List.take_append_drop]
   have hG:bs (X.extract 0 (frs (tx k 1 (l.take w))).length)=frs (tx k 1 (l.take w)):=by
    rw [bs_extract,List.drop_zero,hX,List.take_take,Nat.min_eq_left w3,hpre,List.take_left]
   have hGs:(X.extract 0 (frs (tx k 1 (l.take w))).length).size=(frs (tx k 1 (l.take w))).length:=by rw [←bs_len,hG]
   have hm2:=mount_all (k:=k) (l:=l.take w) (F:=X.extract 0 (frs (tx k 1 (l.take w))).length) (n:=((X.extract 0 (frs (tx k 1 (l.take w))).length).size:Int)) (by rw [List.length_take];omega) (fun r hr=>hs r (List.mem_of_mem_take hr)) (enterAll_take w he2) hG (by omega)
   generalize X.extract 0 (frs (tx k 1 (l.take w))).length=G at hm hG hGs hm2
   refine ⟨_,mendDo G,dk G G.size,hm,hx,do_mend hn hX2 (by omega),hm2,small_dk hX2,small_dk (by omega),Nat.le_refl _,fun a ha=>?_⟩
   rw [mendDo,List.mem_cons,List.mem_cons,List.mem_singleton] at ha
   rcases ha with rfl | rfl | rfl
   ·show G.size≤20000;omega
   ·exact Nat.zero_le _
   ·exact Nat.zero_le _
structure Good (k:ByteArray) (l:List SRec) (b:SBox):Prop where
 ksz:k.size=32
 key:b.fKey=k
 up:b.fUp=true
 disk:∃ F:ByteArray,b.fDisk=dk F F.size∧bs F=frs (tx k 1 l)
 len:1≤l.length∧l.length≤50
 book:enterAllB bookNew l=(b.fBook,true)
 ses:b.fSessions.length≤3∧sessR b b.fSessions.length 0=true
 opn:0≤b.fOpened∧b.fOpened≤1000
 liv:livesB b=true∧b.fLives.length≤8
theorem Good.Vs {k:ByteArray} {l:List SRec} {b:SBox} (g:Good k l b):bookOk b.fBook=true:=by
 have:=enterAll_ok (rs:=l) bookNew_ok (by rw [g.book])
 rw [g.book] at this;exact this
theorem Good.cnt {k:ByteArray} {l:List SRec} {b:SBox} (g:Good k l b):b.fBook.fCount=(l.length:Int):=by
 have:=enterAll_count (l:=l) (b:=bookNew) (by rw [g.book])
 rw [g.book,show bookNew.fCount=0 from rfl,Int.zero_add] at this;exact this
theorem Good.sound {k:ByteArray} {l:List SRec} {b:SBox} (g:Good k l b):Sound l:=enterAll_sound (b:=bookNew) (by rw [g.book])
theorem Good.Ws {k F:ByteArray} {l:List SRec} (hl:l.length≤50) (hF:bs F=frs (tx k 1 l)):F.size≤16700:=by
 have:=w_small (k:=k) hl l.length
 rw [List.take_length,←hF,bs_len] at this;exact this
theorem Good.small {k:ByteArray} {l:List SRec} {b:SBox} (g:Good k l b):Small b.fDisk:=by
 obtain ⟨F,h1,h2⟩:=g.disk
 rw [h1];exact small_dk (by have:=Good.Ws g.len.2 h2;omega)
theorem Good.tng {k:ByteArray} {l:List SRec} {b:SBox} (g:Good k l b):b.fBook.fThings.length≤8:=(bookOk_iff.1 g.Vs).2.2.2.1
theorem Good.ok {k:ByteArray} {l:List SRec} {b:SBox} (g:Good k l b):boxOkB b=true:=by
 obtain ⟨F,h1,h2⟩:=g.disk
 have hz:=Good.Ws g.len.2 h2
 have hm:=mount_all (k:=k) (F:=F) (l:=l) (n:=F.size) g.len.2 g.sound (by rw [g.book]) h2 (by omega)
 rw [g.book] at hm
 have hd:=diskOk1 (F:=F) (n:=(F.size:Int)) (by omega) (by omega)
 have h3:=g.ses.1
 rw [boxOkB,boxEnd,g.up,g.key,h1,hd,hm,g.ksz,g.Vs,g.ses.2,g.liv.1,show sameB b.fBook b.fBook=true from sameB_iff.2 rfl,decide_eq_true (by omega:(b.fSessions.length:Int)≤3),inR_iff.2 g.opn];rfl
theorem NAE {b c:SBox} (h1:c.fSessions=b.fSessions) (h2:c.fOpened=b.fOpened):∀ j i,sessR c j i=sessR b j i:=by
 intro j
 induction j with
 | zero=>intro i;rfl
 | succ j ih=>intro i;rw [sessR,sessR,sessAt,sessAt,h1,h2,ih]
theorem OAE {b c:SBox} (h1:c.fLives=b.fLives) (h2:c.fBook.fThings=b.fBook.fThings):∀ j i,livesR c j i=livesR b j i:=by
 intro j
 induction j with
 | zero=>intro i;rfl
 | succ j ih=>intro i;rw [livesR,livesR,liveAt,liveAt,h1,h2,ih]
theorem FAD {k w:ByteArray} (hk:k.size=32) (hw:w.size≤20):(boxNewT k w).2=true∧Good k [recWord w] (boxNewT k w).1∧(boxNewT k w).1.fSessions=[]∧(boxNewT k w).1.fLives=[]∧(boxNewT k w).1.fOpened=0∧(boxNewT k w).1.fBook=(enterB bookNew (recWord w)).1:=by
 obtain ⟨T,h1,h2,h3⟩:=newbox hk hw
 rw [h1]
 refine ⟨rfl,⟨hk,rfl,rfl,⟨T,rfl,h3⟩,⟨Nat.le_refl _,by rw [List.length_singleton];omega⟩,?_,⟨Nat.zero_le _,rfl⟩,⟨Int.le_refl _,by show (0:Int)≤1000;omega⟩,⟨rfl,Nat.zero_le _⟩⟩,rfl,rfl,rfl,rfl⟩
 rw [enterAllB,enterB_word];rfl
theorem Good.Gj {k:ByteArray} {l:List SRec} {b:SBox} (g:Good k l b):impl_BoxOk b=some true:=by
 have hs:=g.small
 have h1:=hs.1
 have h2:=g.tng
 have h3:=g.ses.1
 have h4:=g.liv.2
 rw [p_impl_BoxOk (by omega) (fun f hf=>by have:=hs.2 f hf;omega) (by omega) (by omega) (by omega),g.ok]
theorem PAE {k:ByteArray} {l:List SRec} {b:SBox} {c:SCall} (g:Good k l b) (hc:callOk c=true) (ho:c.fOp=1) (hs:b.fSessions.length<3) (hp:b.fOpened<99):∃ s,TT b c=some ([],0,s):=by
 have h1:=g.cnt
 have h2:=g.len.2
 have h3:=g.opn.1
 obtain ⟨s,hd⟩:=p_impl_Decimal (n:=b.fOpened+1) (by omega)
 refine ⟨s,?_⟩
 rw [TT,Ua,g.Gj,Option.bind_some,Bool.not_true,cond_false,g.up,Bool.not_true,cond_false,p_impl_CallOk,Option.bind_some,hc,Bool.not_true,cond_false,cond_f (by rw [decide_eq_false_iff_not];omega),cond_t (by rw [ho];rfl),cond_f (by rw [decide_eq_false_iff_not];omega),cond_f (by rw [decide_eq_false_iff_not];omega),w64_id (by omega) (by omega),hd];rfl
theorem GAD {c:SCall} (h:callOk c=true):c.fText.size≤1000:=by
 simp only [callOk,Bool.and_eq_true,decide_eq_true_eq] at h
 omega
theorem QAE {k:ByteArray} {l:List SRec} {b:SBox} {c:SCall} {j:Nat} (g:Good k l b) (hc:callOk c=true) (ho:c.fOp=2) (hj:atS b c.fSession=(j:Int)):TT b c=some (wordT b c):=by
 have h1:=g.cnt
 have h2:=g.len.2
 have h3:=g.ses.1
 have h4:=GAD hc
 have h5:=(bookOk_iff.1 g.Vs).2.2.1.1
 rw [TT,Ua,g.Gj,Option.bind_some,Bool.not_true,cond_false,g.up,Bool.not_true,cond_false,p_impl_CallOk,Option.bind_some,hc,Bool.not_true,cond_false,cond_f (by rw [decide_eq_false_iff_not];omega),cond_f (by rw [ho];rfl),p_impl_sessionAt (by omega),Option.bind_some,hj,cond_f (by rw [decide_eq_false_iff_not];omega),cond_f (by rw [ho];rfl),cond_t (by rw [ho];rfl),p_impl_planWord h5 (by omega)];rfl
theorem IAD {k:ByteArray} {l:List SRec} {b:SBox} {c:SCall} (g:Good k l b) (hc:callOk c=true) (ho:(c.fOp == 1)=false) (hs:b.fSessions=[]):TT b c=some (noR 2):=by
 have h1:=g.cnt
 have h2:=g.len.2
 have h3:atS b c.fSession = -1:=by rw [atS,hs];rfl
 rw [TT,Ua,g.Gj,Option.bind_some,Bool.not_true,cond_false,g.up,Bool.not_true,cond_false,p_impl_CallOk,Option.bind_some,hc,Bool.not_true,cond_false,cond_f (by rw [decide_eq_false_iff_not];omega),ho,cond_false,p_impl_sessionAt (by rw [hs];exact Nat.zero_le _),Option.bind_some,h3,cond_t (by rfl),p_impl_refused (by decide)];rfl
theorem law_FnLocksOut (x0:Unit):laws_FnLocksOut x0=some true:=by
 rw [laws_FnLocksOut,Xk,JAD,Option.bind_some]
 cases decide ((codeL.length:Int) > 1048576)
 ·rw [cond_false]
  obtain ⟨r,h1,hk,hw⟩:=KAD
  rw [h1,Option.bind_some,p_impl_BoxNew,Option.bind_some,LAD,Option.bind_some,cond_f (by simp)]
  by_cases hok:r.1.size=32∧r.2.size≤20
  ·obtain ⟨g0,g,g3,g4,g5,_⟩:=FAD hok.1 hok.2
   have hp:=IAD (c:=⟨2,1,0,0,r.2,false,false⟩) g (by
    rw [callOk]
    dsimp only
    rw [decide_eq_true (by omega:(r.2.size:Int)≤1000)];rfl) rfl g3
   obtain ⟨F,f1,f2⟩:=g.disk
   have hz:=Good.Ws g.len.2 f2
   have hf:boxOkB (fallenB (boxNewT r.1 r.2).1)=true:=fallen_ok (by rw [g.key];exact hok.1) (by rw [f1];exact diskOk1 (by omega) (by omega))
   have hs:=g.small
   rw [g0,Bool.not_true,cond_false,hp,Option.bind_some,g.Gj,Option.bind_some,cond_true,cond_t (by rfl),cond_t (by rfl),p_impl_Fallen (by have:=hs.1;omega),Option.bind_some,p_impl_BoxOk (by have:=hs.1;show (boxNewT r.1 r.2).1.fDisk.fFiles.length≤_;omega) (fun f hf=>by have:=hs.2 f hf;omega) (Nat.zero_le _) (Nat.zero_le _) (Nat.zero_le _),hf];rfl
  ·have hb:boxNewT r.1 r.2=(zBox,false):=by
    rw [boxNewT,cond_t (by
     rw [Bool.or_eq_true,Bool.not_eq_true',beq_eq_false_iff_ne,decide_eq_true_eq]
     omega)]
   rw [hb,Bool.not_false,cond_true,show zBox.fKey=⟨#[]⟩ from rfl,toList_self]
 ·rfl
end Go.Proofs.YtefdenlloeedkaaGreatDoor.G
