/- The plain law of FnWraps: whatever the arguments, it answers true. Conditions: what is read is in reach. Part 1 of 1. -/
import Derived.Test.YtjfkbidckphneaaDoorFFnWraps
import Derived.Test.YtjfkbidckphneaaDoorOpens
import Derived.Test.YtjfkbidckphneaaDoorPBase
namespace Go.Proofs.YtjfkbidckphneaaDoor.G
open Go Go.Ev
set_option linter.unusedVariables false
set_option linter.unusedSimpArgs false
set_option linter.unusedSectionVars false
variable [PC]
theorem AAD (u:Unit):Lm u=some (decide ((codeL.length:Int) > 1048576)):=rfl
def bs (s:ByteArray):List Int:=s.data.toList.map fun b=>(b.toNat:Int)
theorem bs_len (s:ByteArray):(bs s).length=s.size:=by unfold bs;rw [List.length_map];rfl
theorem Yx {s:ByteArray} {n:Int} (h:n ∈ bs s):0≤n∧n≤255:=by
 unfold bs at h;rw [List.mem_map] at h;obtain ⟨b,_,rfl⟩:=h
 have:=b.toNat_lt;omega
theorem OY (a b:ByteArray):bs (a++b)=bs a++bs b:=by simp [bs]
theorem Uf (s:ByteArray):ofBytes (bs s)=s:=by
 cases s;simp [ofBytes,bs,Function.comp_def]
theorem KZ {s t:ByteArray} (h:bs s=bs t):s=t:=by rw [←Uf s,h,Uf]
theorem NM {l:List Int} (h:∀ n,n ∈ l→0≤n∧n≤255):bs (ofBytes l)=l:=by
 simp only [bs,ofBytes,List.map_map]
 conv=>rhs;rw [←List.map_id l]
 apply List.map_congr_left
 intro n hn
 obtain ⟨h1,h2⟩:=h n hn
 simp only [Function.comp,UInt8.toNat_ofNat',id]
 omega
theorem Zx {s:ByteArray} {i:Nat} (h:i<s.size):bt s (i:Int)=(bs s)[i]'(by rw [bs_len];exact h):=by
 simp only [bt,Int.toNat_natCast,h,dite_true,bs,List.getElem_map]
 rfl
theorem Zg (s:ByteArray) (i:Int):0≤bt s i∧bt s i≤255:=by
 unfold bt;split
 ·have:=(s[i.toNat]).toNat_lt;omega
 ·omega
theorem MZ (s:ByteArray) (i j:Nat):bs (s.extract i j)=((bs s).take j).drop i:=by
 simp only [bs,ByteArray.data_extract,Array.toList_extract,List.extract_eq_take_drop,List.map_take,List.map_drop]
 rw [List.drop_take]
theorem TB {α:Type} {c:Bool} {a b:α} (h:c=true):(bif c then a else b)=a:=by rw [h];rfl
theorem FN {α:Type} {c:Bool} {a b:α} (h:c=false):(bif c then a else b)=b:=by rw [h];rfl
theorem Uc {s:ByteArray} {i:Nat} (h:i<s.size):bt s (i:Int)=(bs s).getD i 0:=by rw [Zx h,getD_at]
theorem DAH {s:ByteArray} {i:Int} {j:Nat} (e:i=(j:Int)) (h:j<s.size):bt s i=(bs s).getD j 0:=by rw [e,Uc h]
theorem Ul {α:Type} {a b:List α} {i:Nat} (h:i<a.length) (d:α):(a++b).getD i d=a.getD i d:=by simp [List.getD,List.getElem?_append_left h]
theorem Ah {α:Type} {a b:List α} {i:Nat} (h:a.length≤i) (d:α):(a++b).getD i d=b.getD (i - a.length) d:=by simp [List.getD,List.getElem?_append_right h]
theorem Vf {α:Type} {a b:List α} {x y:α} {i:Nat} (h:a.length=i):(a++x::b).set i y=a++y::b:=by
 rw [List.set_append_right _ _ (by omega),h,Nat.sub_self];rfl
theorem EAH {a b:Nat} (h:a=b):Nat.beq a b=true:=by subst h;exact Nat.beq_refl _
theorem FAH {P:Int→Prop} (n:Int) (h:0≤n) (k:∀ m:Nat,n=(m:Int)→P (m:Int)):P n:=by
 have:=k n.toNat (by omega)
 rwa [show ((n.toNat:Nat):Int)=n by omega] at this
theorem GAH:bs (⟨#[]⟩:ByteArray)=[]:=rfl
def CV (l:List Int):Prop:=∀ n,n ∈ l→0≤n∧n≤255
theorem LZ {l:List Int} (h:CV l) (i:Nat):0≤l.getD i 0∧l.getD i 0≤255:=by
 by_cases hi:i<l.length
 ·rw [getD_at hi];exact h _ (List.getElem_mem hi)
 ·have:l.getD i 0=0:=by simp [List.getD,List.getElem?_eq_none (Nat.le_of_not_lt hi)]
  omega
theorem VZ (s:ByteArray):CV (bs s):=fun _ h=>Yx h
theorem Bh (s:ByteArray):bytesOf s=bs s:=rfl
theorem CAD {α:Type} {l:List α} {i:Nat} (h:i<l.length) (y d:α):(l.set i y).getD i d=y:=by simp [List.getD,h]
def Ok {α:Type} (x:Option α) (Q:α→Prop):Prop:=∃ a,x=some a∧Q a
theorem Ok.bind {α β:Type} {x:Option α} {f:α→Option β} {Q:α→Prop} {R:β→Prop} (h:Ok x Q) (k:∀ a,Q a→Ok (f a) R):Ok (x.bind f) R:=by
 obtain ⟨a,rfl,h⟩:=h;exact k a h
theorem Ok.cond {α:Type} {c:Bool} {a b:Option α} {R:α→Prop} (h1:c=true→Ok a R) (h2:c=false→Ok b R):Ok (bif c then a else b) R:=by
 cases c
 ·exact h2 rfl
 ·exact h1 rfl
theorem Ok.chk {α:Type} {c:Bool} {a:Option α} {R:α→Prop} (hc:c=true) (h1:Ok a R):Ok (bif c then a else none) R:=by rw [hc];exact h1
theorem Ok.ret {α:Type} {a:α} {R:α→Prop} (h:R a):Ok (some a) R:=⟨a,rfl,h⟩
theorem Ok.eq {α:Type} {x:Option α} {a:α} (h:x=some a):Ok x (fun b=>b=a):=⟨a,h,rfl⟩
theorem Ok.mono {α:Type} {x:Option α} {Q R:α→Prop} (h:Ok x Q) (k:∀ a,Q a→R a):Ok x R:=by obtain ⟨a,h1,h2⟩:=h;exact ⟨a,h1,k a h2⟩
def UY (c:SL01Cur):Prop:=0≤c.fI
theorem HAH (n:Int) : -9223372036854775808≤w64 n∧w64 n≤9223372036854775807:=by
 simp only [w64,IntKind.wrap,IntKind.signed,IntKind.bits]
 simp
 omega
theorem Vp (n:Int):0≤w64 ((BitVec.toNat (BitVec.ofInt (IntKind.bits IntKind.i64) n &&& BitVec.ofInt (IntKind.bits IntKind.i64) 255):Nat):Int)∧w64 ((BitVec.toNat (BitVec.ofInt (IntKind.bits IntKind.i64) n &&& BitVec.ofInt (IntKind.bits IntKind.i64) 255):Nat):Int)≤255:=by
 have h:(BitVec.ofInt (IntKind.bits IntKind.i64) n &&& BitVec.ofInt (IntKind.bits IntKind.i64) 255).toNat≤255:=by
  rw [BitVec.toNat_and]
  exact Nat.le_trans Nat.and_le_right (by decide)
 rw [w64_id (by omega) (by omega)]
 omega
theorem D7:Ok (Zd ()) UY:=by
 have hl:codeL.length≤140737488351232:=PC.hl
 have key:∀ (j i m:Nat) (h:Int),i+j=codeL.length→Ok (Lh (m+j+1) (.c0 h (i:Int))) UY:=by
  intro j
  induction j with
  | zero=>
   intro i m h hi
   rw [Lh];simp only [Pm]
   rw [FN (by simp;omega)]
   exact Ok.ret (Int.le_refl 0)
  | succ j ih=>
   intro i m h hi
   have hw:w64 ((i:Int)+1)=((i+1:Nat):Int):=by rw [w64_id (by omega) (by omega)];rfl
   rw [show m+(j+1)+1=(m+j+1)+1 from rfl,Lh]
   simp only [Pm,hw]
   refine Ok.cond (fun _=>Ok.cond (fun _=>?_) fun _=>Ok.ret (Int.le_refl 0)) fun _=>Ok.ret (Int.le_refl 0)
   refine Ok.chk (by simp;omega) (Ok.chk (by rw [Int.toNat_natCast];exact Nat.ble_eq_true_of_le (by omega)) (ih (i+1) m _ (by omega)))
 obtain ⟨m,hm⟩:∃ m,gas=m+codeL.length+1:=⟨gas - (codeL.length+1),by have:=gas_lt (n:=codeL.length+1) (by omega);omega⟩
 rw [Zd,Vq,hm]
 exact key codeL.length 0 m _ (Nat.zero_add _)
theorem Dh {c:SL01Cur} (hc:UY c):Ok (Bc c) fun r=>0≤r.1∧r.1≤255∧UY r.2:=by
 have hl:codeL.length≤140737488351232:=PC.hl
 have hc:0≤c.fI:=hc
 rw [Bc,Wq]
 refine Ok.cond (fun h=>?_) fun h=>Ok.ret ⟨(Vp _).1,(Vp _).2,hc⟩
 rw [decide_eq_true_eq] at h
 refine Ok.chk (by simp;omega) (Ok.chk (Nat.ble_eq_true_of_le (by omega)) (Ok.ret ⟨(Vp _).1,(Vp _).2,?_⟩))
 show 0≤w64 (c.fI+1)
 rw [w64_id (by omega) (by omega)];omega
theorem tmod_lt {a n:Int} (ha:0≤a) (hn:0<n):0≤a.tmod n∧a.tmod n<n:=⟨Int.tmod_nonneg _ ha,Int.tmod_lt_of_pos _ hn⟩
theorem Xc {c:SL01Cur} {n:Int} (hc:UY c):Ok (AZ c n) fun r=>(0≤r.1∧(0<n→r.1<n)∧(n≤0→r.1=0))∧UY r.2:=by
 rw [AZ,Yq]
 refine Ok.cond (fun h=>?_) fun h=>?_
 ·rw [decide_eq_true_eq] at h
  exact Ok.ret ⟨⟨Int.le_refl 0,fun h2=>h2,fun _=>rfl⟩,hc⟩
 ·rw [decide_eq_false_iff_not] at h
  have hn:(!(n == 0))=true:=by simp;omega
  refine Ok.cond (fun _=>?_) fun _=>?_
  ·refine Ok.bind (Dh hc) fun a ha=>Ok.chk hn (Ok.ret ?_)
   have:=tmod_lt ha.1 (show 0<n by omega)
   exact ⟨⟨this.1,fun _=>this.2,fun h2=>by omega⟩,ha.2.2⟩
  ·refine Ok.bind (Dh hc) fun a ha=>Ok.bind (Dh ha.2.2) fun b hb=>Ok.bind (Dh hb.2.2) fun d hd=>Ok.bind (Dh hd.2.2) fun e he=>Ok.chk hn (Ok.ret ?_)
   obtain ⟨a1,a2,_⟩:=ha
   obtain ⟨b1,b2,_⟩:=hb
   obtain ⟨d1,d2,_⟩:=hd
   obtain ⟨e1,e2,e3⟩:=he
   have hw:w64 (w64 (w64 (w64 (a.1*16777216)+w64 (b.1*65536))+w64 (d.1*256))+e.1)=a.1*16777216+b.1*65536+d.1*256+e.1:=by
    rw [w64_id (n:=a.1*16777216) (by omega) (by omega),w64_id (n:=b.1*65536) (by omega) (by omega),w64_id (n:=d.1*256) (by omega) (by omega),w64_id (n:=a.1*16777216+b.1*65536) (by omega) (by omega),w64_id (n:=a.1*16777216+b.1*65536+d.1*256) (by omega) (by omega),w64_id (by omega) (by omega)]
   have:=tmod_lt (show 0≤a.1*16777216+b.1*65536+d.1*256+e.1 by omega) (show 0<n by omega)
   simp only [hw]
   exact ⟨⟨this.1,fun _=>this.2,fun h2=>by omega⟩,e3⟩
theorem Wp {c:SL01Cur} {n:Int} (hc:UY c) (h0:0≤n):Ok (Dc c n) fun r=>(r.1.size:Int)=min n 5000∧UY r.2:=by
 have key:∀ (j i m:Nat) (N:Nat) (a b:Int) (out:List Int),i+j=N→N≤5000→out.length=i→0≤a→Ok (Ig (m+j+1) (.c0 (N:Int) (i:Int) a b out)) fun r=>r.1.size=N∧UY r.2:=by
  intro j
  induction j with
  | zero=>
   intro i m N a b out hi hN ho ha
   rw [Ig];simp only [Qm]
   rw [FN (by simp;omega)]
   exact Ok.ret ⟨by rw [ofBytes_size];omega,ha⟩
  | succ j ih=>
   intro i m N a b out hi hN ho ha
   have hw:w64 ((i:Int)+1)=((i+1:Nat):Int):=by rw [w64_id (by omega) (by omega)];rfl
   rw [show m+(j+1)+1=(m+j+1)+1 from rfl,Ig]
   simp only [Qm,hw]
   rw [TB (by simp;omega)]
   exact Ok.bind (Dh (c:=⟨(),a,b⟩) ha) fun r hr=>Ok.chk (by simp;omega) (ih (i+1) m N _ _ _ (by omega) hN (by simp [ho]) hr.2.2)
 rw [Dc,Zq]
 have run:∀ N:Nat,N≤5000→Ok (Ig gas (.c0 (N:Int) 0 c.fI c.fH [])) fun r=>r.1.size=N∧UY r.2:=fun N hN=>by
  obtain ⟨m,hm⟩:∃ m,gas=m+N+1:=⟨gas - (N+1),by have:=gas_lt (n:=N+1) (by omega);omega⟩
  rw [hm]
  exact key N 0 m N _ _ [] (Nat.zero_add _) hN rfl hc
 refine Ok.cond (fun h=>?_) fun h=>?_
 ·rw [decide_eq_true_eq] at h
  exact (run 5000 (Nat.le_refl _)).mono fun r hr=>⟨by omega,hr.2⟩
 ·rw [decide_eq_false_iff_not] at h
  have:=run n.toNat (by omega)
  rw [show ((n.toNat:Nat):Int)=n by omega] at this
  exact this.mono fun r hr=>⟨by omega,hr.2⟩
theorem F7 {c:SL01Cur} {l:List Int} (hc:UY c) (hl:0<l.length):Ok (Ee c l) fun r=>r.1 ∈ l∧UY r.2:=by
 rw [Ee,Ir]
 refine Ok.bind (Xc hc) fun a ha=>?_
 have h1:=ha.1.2.1 (by omega)
 refine Ok.chk (by simp;omega) (Ok.ret ⟨?_,ha.2⟩)
 rw [getD_at (by omega)];exact List.getElem_mem _
theorem DAD {n:Nat} {x:Int} (h:n≤1000000000):Ya (n:Int) x=some (ofBytes (List.replicate n x)):=by
 have key:∀ (j i m:Nat),i+j=n→Uh (m+j+1) (.c0 (n:Int) x (i:Int) (List.replicate i x++List.replicate (n - i) 0))=some (ofBytes (List.replicate n x)):=by
  intro j
  induction j with
  | zero=>
   intro i m hi
   obtain rfl:i=n:=by omega
   rw [Uh]
   simp only [Um]
   rw [FN (by simp),Nat.sub_self,List.replicate_zero,List.append_nil]
  | succ j ih=>
   intro i m hi
   have e:w64 ((i:Int)+1)=((i+1:Nat):Int):=by rw [w64_id (by omega) (by omega)];rfl
   rw [show m+(j+1)+1=(m+j+1)+1 by omega,Uh]
   simp only [Um,e,Int.toNat_natCast]
   rw [TB (by simp;omega),TB (by simp;omega),show n - i=(n - (i+1))+1 by omega,List.replicate_succ,Vf (by simp)]
   have h2:=ih (i+1) m (by omega)
   rw [List.replicate_succ' (n:=i),List.append_assoc] at h2
   exact h2
 obtain ⟨m,hm⟩:∃ m,gas=m+n+1:=⟨gas - (n+1),by have:=gas_lt (n:=n+1) (by omega);omega⟩
 have h0:=key n 0 m (by omega)
 rw [List.replicate_zero,List.nil_append,Nat.sub_zero] at h0
 rw [Ya,Jr,TB (by simp;omega),hm]
 exact h0
theorem Dy {n x:Int} (h0:0≤n) (h1:n≤1000000000):Ok (Ya n x) fun r=>(r.size:Int)=n:=by
 have h:=DAD (n:=n.toNat) (x:=x) (by omega)
 rw [show ((n.toNat:Nat):Int)=n by omega] at h
 exact ⟨_,h,by show ((ofBytes (List.replicate n.toNat x)).size:Int)=n;rw [ofBytes_size,List.length_replicate];omega⟩
theorem G7 {c:SL01Cur} (hc:UY c):Ok (Fe c) fun r=>r.1.size≤100∧UY r.2:=by
 rw [Fe,Nr]
 refine Ok.bind (Xc hc) fun a ha=>Ok.bind (Wp ha.2 ha.1.1) fun s hs=>Ok.bind (F7 hs.2 (Nat.succ_pos _)) fun n hn=>?_
 have h1:=ha.1.2.1 (by omega)
 have h2:0≤n.1∧n.1≤80:=by
  have:=hn.1
  simp only [List.mem_cons,List.not_mem_nil,or_false] at this
  omega
 refine Ok.bind (Dy h2.1 (by omega)) fun t ht=>?_
 have h3:=hs.1
 exact Ok.chk (by rw [decide_eq_true_eq];omega) (Ok.ret ⟨by show (s.1++t).size≤100;rw [ByteArray.size_append];omega,hn.2⟩)
theorem EAD {c:SL01Cur} {n:Int} (hc:UY c):Ok (Vh c n) fun r=>UY r.2:=by
 rw [Vh,Sr]
 exact Ok.bind (Xc hc) fun a ha=>Ok.ret ha.2
theorem Ey {c:SL01Cur} (hc:UY c):Ok (He c) fun r=>r.1.size≤100∧UY r.2:=by
 rw [He,Ur]
 refine Ok.bind (Xc hc) fun a ha=>Ok.bind (Wp ha.2 ha.1.1) fun s hs=>Ok.bind (F7 hs.2 (Nat.succ_pos _)) fun n hn=>?_
 have h1:=ha.1.2.1 (by omega)
 have h2:0≤n.1∧n.1≤40:=by
  have:=hn.1
  simp only [List.mem_cons,List.not_mem_nil,or_false] at this
  omega
 refine Ok.bind (Dy h2.1 (by omega)) fun t ht=>?_
 have h3:=hs.1
 exact Ok.chk (by rw [decide_eq_true_eq];omega) (Ok.ret ⟨by show (s.1++t).size≤100;rw [ByteArray.size_append];omega,hn.2⟩)
theorem FAD:Ok (Wh ()) fun r=>r.1.size≤100:=by
 rw [Wh,Xr]
 refine Ok.bind D7 fun c hc=>Ok.bind (G7 hc) fun k hk=>Ok.bind (EAD hk.2) fun a ha=>Ok.cond (fun _=>Ok.bind (Xc ha) fun n hn=>?_) fun _=>Ok.bind (Ey ha) fun s hs=>Ok.ret hk.1
 have h1:=hn.1.2.1 (by omega)
 have h0:=hn.1.1
 have hw:w64 (400+n.1)=400+n.1:=w64_id (by omega) (by omega)
 rw [hw]
 exact Ok.bind (Dy (by omega) (by omega)) fun s hs=>Ok.ret hk.1
def IK (n:Int):List Int:=if n > 127 then (128+n % 128)::IK (n / 128) else [w8 n]
termination_by n.toNat
decreasing_by omega
theorem H7:∀ (k:Nat) (n:Int),n<128 ^ k→(IK n).length≤max k 1:=by
 intro k
 induction k with
 | zero=>intro n h;rw [IK,if_neg (by omega)];simp
 | succ k ih=>
  intro n h
  rw [IK]
  split
  ·rename_i hn
   have h2:n / 128<128 ^ k:=by
    rw [Int.pow_succ] at h
    exact Int.ediv_lt_of_lt_mul (by omega) h
   have:=ih _ h2
   simp only [List.length_cons]
   by_cases hk:k=0
   ·subst hk;simp at h2;try omega
   ·omega
  ·simp;try omega
theorem Yc {n:Int} (h:n≤9223372036854775807):(IK n).length≤10:=by
 have:=H7 10 n (by (have:(128:Int) ^ 10=1180591620717411303424:=by decide);omega)
 omega
theorem Ob (n:Int):1≤(IK n).length:=by rw [IK];split <;> simp
theorem I7 {n:Int} (h:n > 127) (h2:n≤9223372036854775807):w64 (n.tdiv 128)=n / 128∧w8 (w64 (n.tmod 128+128))=128+n % 128∧w8 (w64 (128+n.tmod 128))=128+n % 128:=by
 have e1:n.tdiv 128=n / 128:=Int.tdiv_eq_ediv_of_nonneg (by omega)
 have e2:n.tmod 128=n % 128:=Int.tmod_eq_emod_of_nonneg (by omega)
 refine ⟨by rw [e1,w64_id (by omega) (by omega)],?_,?_⟩
 ·rw [e2,w64_id (by omega) (by omega),w8_id (by omega) (by omega)];omega
 ·rw [e2,w64_id (by omega) (by omega),w8_id (by omega) (by omega)]
theorem Xp {n:Int} (h:n≤9223372036854775807):FZ n=some (ofBytes (IK n)):=by
 have key:∀ (n:Int) (m:Nat) (out:List Int),n≤9223372036854775807→(IK n).length≤m→out.length+(IK n).length≤1000→Qj m (.c0 n out)=some (ofBytes (out++IK n)):=by
  intro n
  induction n using IK.induct with
  | case1 n hn ih=>
   intro m out h1 h2 h3
   rw [IK,if_pos hn] at h2 h3 ⊢
   simp only [List.length_cons] at h2 h3
   obtain ⟨m,rfl⟩:∃ k,m=k+1:=⟨m - 1,by omega⟩
   obtain ⟨e1,e2,_⟩:=I7 hn h1
   simp only [Qj,Io,e1,e2]
   rw [show decide (n > 127)=true from decide_eq_true hn,show decide ((out.length+1)*1≤140737488355328)=true from decide_eq_true (by omega)]
   simp only [cond_true]
   rw [ih m _ (by omega) (by omega) (by simp;omega)]
   simp
  | case2 n hn=>
   intro m out h1 h2 h3
   rw [IK,if_neg hn] at h2 h3 ⊢
   simp at h2 h3
   obtain ⟨m,rfl⟩:∃ k,m=k+1:=⟨m - 1,by omega⟩
   simp only [Qj,Io]
   rw [show decide (n > 127)=false from decide_eq_false hn,show decide ((out.length+1)*1≤140737488355328)=true from decide_eq_true (by omega)]
   rfl
 have hl:=Yc h
 exact key n gas [] h (Nat.le_of_lt (gas_lt (by omega))) (by simp;omega)
theorem Gy {n:Int} (h:n≤9223372036854775807):Ld n=some (ofBytes (IK n)):=by
 have key:∀ (n:Int) (m:Nat) (out:List Int),n≤9223372036854775807→(IK n).length≤m→out.length+(IK n).length≤1000→Zh m (.c0 n out)=some (ofBytes (out++IK n)):=by
  intro n
  induction n using IK.induct with
  | case1 n hn ih=>
   intro m out h1 h2 h3
   rw [IK,if_pos hn] at h2 h3 ⊢
   simp only [List.length_cons] at h2 h3
   obtain ⟨m,rfl⟩:∃ k,m=k+1:=⟨m - 1,by omega⟩
   obtain ⟨e1,_,e2⟩:=I7 hn h1
   simp only [Zh,Ym,e1,e2]
   rw [show decide (n > 127)=true from decide_eq_true hn,show decide ((out.length+1)*1≤140737488355328)=true from decide_eq_true (by omega)]
   simp only [cond_true]
   rw [ih m _ (by omega) (by omega) (by simp;omega)]
   simp
  | case2 n hn=>
   intro m out h1 h2 h3
   rw [IK,if_neg hn] at h2 h3 ⊢
   simp at h2 h3
   obtain ⟨m,rfl⟩:∃ k,m=k+1:=⟨m - 1,by omega⟩
   simp only [Zh,Ym]
   rw [show decide (n > 127)=false from decide_eq_false hn,show decide ((out.length+1)*1≤140737488355328)=true from decide_eq_true (by omega)]
   rfl
 have hl:=Yc h
 exact key n gas [] h (Nat.le_of_lt (gas_lt (by omega))) (by simp;omega)
theorem Hy {n:Nat} (h:n≤1000000000):Za (n:Int)=some (ofBytes (List.replicate n 0)):=by
 simp only [Za,Es,Int.toNat_natCast]
 rw [TB (by simp;omega)]
theorem Xf {n:Int}:w32 n=n % 4294967296:=by
 simp only [w32,IntKind.wrap,IntKind.signed,IntKind.bits]
 simp
theorem La {n:Int} (h1:0≤n) (h2:n<4294967296):w32 n=n:=by rw [Xf];omega
def R32 (n:Int):Prop:=0≤n∧n<4294967296
theorem GZ (n:Int):R32 (w32 n):=by unfold R32;rw [Xf];omega
theorem IAH {n:Int} (h:0≤n∧n≤255):R32 n:=by unfold R32;omega
def xr (x y:Int):Int:=w32 (((BitVec.toNat ((BitVec.ofInt (IntKind.bits IntKind.u32) x) ^^^ (BitVec.ofInt (IntKind.bits IntKind.u32) y))):Nat):Int)
def an (x y:Int):Int:=w32 (((BitVec.toNat ((BitVec.ofInt (IntKind.bits IntKind.u32) x) &&& (BitVec.ofInt (IntKind.bits IntKind.u32) y))):Nat):Int)
def Vl (x y:Int):Int:=w32 (((BitVec.toNat ((BitVec.ofInt (IntKind.bits IntKind.u32) x) ||| (BitVec.ofInt (IntKind.bits IntKind.u32) y))):Nat):Int)
theorem Yf (x y:Int):w32 (((BitVec.toNat ((BitVec.ofInt (IntKind.bits IntKind.u32) x) ^^^ (BitVec.ofInt (IntKind.bits IntKind.u32) y))):Nat):Int)=xr x y:=rfl
theorem J7 (x y:Int):w32 (((BitVec.toNat ((BitVec.ofInt (IntKind.bits IntKind.u32) x) &&& (BitVec.ofInt (IntKind.bits IntKind.u32) y))):Nat):Int)=an x y:=rfl
theorem N7 (x y:Int):w32 (((BitVec.toNat ((BitVec.ofInt (IntKind.bits IntKind.u32) x) ||| (BitVec.ofInt (IntKind.bits IntKind.u32) y))):Nat):Int)=Vl x y:=rfl
theorem JAH (x y:Int):R32 (xr x y):=GZ _
theorem KAH (x y:Int):R32 (an x y):=GZ _
theorem O7 {a b:Nat} {s:Nat} (hb:b<2 ^ s) (ha:a*2 ^ s<4294967296) (hs:b<4294967296):Vl ((a*2 ^ s:Nat):Int) (b:Int)=((a*2 ^ s+b:Nat):Int):=by
 have e:a*2 ^ s ||| b=a*2 ^ s+b:=by
  have:=Nat.shiftLeft_add_eq_or_of_lt hb a
  rw [Nat.shiftLeft_eq] at this
  exact this.symm
 unfold Vl
 have h3:a*2 ^ s ||| b<2 ^ 32:=Nat.or_lt_two_pow (by omega) (by omega)
 rw [BitVec.toNat_or]
 show w32 (((BitVec.ofInt 32 _).toNat ||| (BitVec.ofInt 32 _).toNat:Nat):Int)=_
 rw [BitVec.ofInt_natCast,BitVec.ofInt_natCast,BitVec.toNat_ofNat,BitVec.toNat_ofNat,Nat.mod_eq_of_lt (by omega),Nat.mod_eq_of_lt (by omega),e]
 rw [e] at h3
 exact La (by omega) (by omega)
theorem GAD {e:Int} (h:R32 e):xr (ite ((IntKind.signed IntKind.u32)=true) (-(1:Int)) (IntKind.max IntKind.u32)) e=w32 (4294967295 - e):=by
 obtain ⟨h1,h2⟩:=h
 obtain ⟨n,rfl⟩:∃ n:Nat,e=(n:Int):=⟨e.toNat,by omega⟩
 have hn:n<4294967296:=by omega
 have e1:(ite ((IntKind.signed IntKind.u32)=true) (-(1:Int)) (IntKind.max IntKind.u32))=4294967295:=by decide
 rw [e1]
 unfold xr
 show w32 (((BitVec.ofInt 32 4294967295 ^^^ BitVec.ofInt 32 (n:Int)).toNat:Nat):Int)=_
 have e2:BitVec.ofInt 32 4294967295=BitVec.allOnes 32:=by decide
 rw [e2,BitVec.ofInt_natCast,BitVec.allOnes_xor,BitVec.toNat_not,BitVec.toNat_ofNat]
 rw [Xf,Xf]
 omega
def rt (low high x:Int):Int:=x / low+x % low*high
theorem IAD {low high x:Int} (h:R32 x) (hl:0<low) (hh:0<high) (hlh:low*high=4294967296):R32 (rt low high x):=by
 unfold R32 rt at *
 have h1:0≤x / low:=Int.ediv_nonneg h.1 (by omega)
 have h2:0≤x % low:=Int.emod_nonneg _ (by omega)
 have h3:x % low<low:=Int.emod_lt_of_pos _ hl
 have h4:x / low<high:=Int.ediv_lt_of_lt_mul hl (by rw [Int.mul_comm,hlh];exact h.2)
 have h5:0≤x % low*high:=Int.mul_nonneg h2 (by omega)
 have h6:x % low*high≤(low - 1)*high:=Int.mul_le_mul_of_nonneg_right (by omega) (by omega)
 have h7:(low - 1)*high=low*high - high:=by rw [Int.sub_mul,Int.one_mul]
 omega
theorem JAD {x:Int} (h:R32 x) (n:Nat) (hn:0<n) (hn2:n<32):Vl (w32 (x*2 ^ (32 - n))) (x / 2 ^ n)=rt (2 ^ n) (2 ^ (32 - n)) x:=by
 obtain ⟨h1,h2⟩:=h
 obtain ⟨y,rfl⟩:∃ y:Nat,x=(y:Int):=⟨x.toNat,by omega⟩
 have hy:y<4294967296:=by omega
 have e0:(4294967296:Nat)=2 ^ n*2 ^ (32 - n):=by rw [←Nat.pow_add,show n+(32 - n)=32 by omega]
 have e1:w32 ((y:Int)*2 ^ (32 - n))=((y % 2 ^ n*2 ^ (32 - n):Nat):Int):=by
  rw [Xf]
  have h5:((y:Int)*2 ^ (32 - n))=((y*2 ^ (32 - n):Nat):Int):=by push_cast;rfl
  have h6:y*2 ^ (32 - n) % 4294967296=y % 2 ^ n*2 ^ (32 - n):=by rw [e0,Nat.mul_mod_mul_right]
  rw [h5,←h6]
  omega
 have e2:((y:Int) / 2 ^ n)=((y / 2 ^ n:Nat):Int):=by push_cast;rfl
 have hp:0<2 ^ n:=Nat.two_pow_pos n
 have hp2:0<2 ^ (32 - n):=Nat.two_pow_pos _
 have hm:y % 2 ^ n<2 ^ n:=Nat.mod_lt _ hp
 have hd:y / 2 ^ n<2 ^ (32 - n):=Nat.div_lt_of_lt_mul (by rw [←e0];exact hy)
 rw [e1,e2,O7 hd (by rw [e0];exact Nat.mul_lt_mul_of_pos_right hm hp2) (Nat.lt_of_le_of_lt (Nat.div_le_self _ _) hy)]
 unfold rt
 push_cast
 omega
def P7 (x:Int):Int:=xr (xr (rt 128 33554432 x) (rt 262144 16384 x)) (x / 8)
def sg1 (x:Int):Int:=xr (xr (rt 131072 32768 x) (rt 524288 8192 x)) (x / 1024)
def Q7 (x:Int):Int:=xr (xr (rt 64 67108864 x) (rt 2048 2097152 x)) (rt 33554432 128 x)
def U7 (x:Int):Int:=xr (xr (rt 4 1073741824 x) (rt 8192 524288 x)) (rt 4194304 1024 x)
def KAD (w:List Int) (t:Nat):Int:=w32 (w32 (w32 (sg1 (w.getD (t - 2) 0)+w.getD (t - 7) 0)+P7 (w.getD (t - 15) 0))+w.getD (t - 16) 0)
def sched (w:List Int):Nat→List Int
 | 0=>w
 | n+1=>sched w n++[KAD (sched w n) (16+n)]
theorem Wl {w:List Int} (h:w.length=16) (n:Nat):(sched w n).length=16+n:=by
 induction n with
 | zero=>exact h
 | succ n ih=>simp [sched,ih];omega
theorem Yp {w:List Int} (h:∀ x ∈ w,R32 x) (n:Nat):∀ x ∈ sched w n,R32 x:=by
 induction n with
 | zero=>exact h
 | succ n ih=>
  intro x hx
  rw [sched,List.mem_append,List.mem_singleton] at hx
  rcases hx with hx | rfl
  ·exact ih x hx
  ·exact GZ _
theorem Xl {l:List Int} (h:∀ x ∈ l,R32 x) (i:Nat):R32 (l.getD i 0):=by
 by_cases hi:i<l.length
 ·rw [getD_at hi];exact h _ (List.getElem_mem hi)
 ·have:l.getD i 0=0:=by simp [List.getD,List.getElem?_eq_none (Nat.le_of_not_lt hi)]
  rw [this];unfold R32;omega
structure Reg where
 a:Int
 b:Int
 c:Int
 d:Int
 e:Int
 f:Int
 g:Int
 h:Int
def Reg.ok (r:Reg):Prop:=R32 r.a∧R32 r.b∧R32 r.c∧R32 r.d∧R32 r.e∧R32 r.f∧R32 r.g∧R32 r.h
def Reg.l (r:Reg):List Int:=[r.a,r.b,r.c,r.d,r.e,r.f,r.g,r.h]
theorem Reg.Yl (r:Reg):r.l.length=8:=rfl
def t1 (r:Reg) (k w:Int):Int:=w32 (w32 (w32 (w32 (r.h+Q7 r.e)+xr (an r.e r.f) (an (w32 (4294967295 - r.e)) r.g))+k)+w)
def t2 (r:Reg):Int:=w32 (U7 r.a+xr (xr (an r.a r.b) (an r.a r.c)) (an r.b r.c))
def Na (r:Reg) (k w:Int):Reg:=⟨w32 (t1 r k w+t2 r),r.a,r.b,r.c,w32 (r.d+t1 r k w),r.e,r.f,r.g⟩
theorem LAD {r:Reg} (h:r.ok) (k w:Int):(Na r k w).ok:=⟨GZ _,h.1,h.2.1,h.2.2.1,GZ _,h.2.2.2.2.1,h.2.2.2.2.2.1,h.2.2.2.2.2.2.1⟩
def VY (K W:List Int) (r:Reg):Nat→Reg
 | 0=>r
 | n+1=>Na (VY K W r n) (K.getD n 0) (W.getD n 0)
theorem V7 (K W:List Int) {r:Reg} (h:r.ok) (n:Nat):(VY K W r n).ok:=by
 induction n with
 | zero=>exact h
 | succ n ih=>exact LAD ih _ _
def Zf (s r:Reg):Reg:=⟨w32 (s.a+r.a),w32 (s.b+r.b),w32 (s.c+r.c),w32 (s.d+r.d),w32 (s.e+r.e),w32 (s.f+r.f),w32 (s.g+r.g),w32 (s.h+r.h)⟩
theorem MAD (s r:Reg):(Zf s r).ok:=⟨GZ _,GZ _,GZ _,GZ _,GZ _,GZ _,GZ _,GZ _⟩
def keysL:List Int:=[1116352408,1899447441,3049323471,3921009573,961987163,1508970993,2453635748,2870763221,3624381080,310598401,607225278,1426881987,1925078388,2162078206,2614888103,3248222580,3835390401,4022224774,264347078,604807628,770255983,1249150122,1555081692,1996064986,2554220882,2821834349,2952996808,3210313671,3336571891,3584528711,113926993,338241895,666307205,773529912,1294757372,1396182291,1695183700,1986661051,2177026350,2456956037,2730485921,2820302411,3259730800,3345764771,3516065817,3600352804,4094571909,275423344,430227734,506948616,659060556,883997877,958139571,1322822218,1537002063,1747873779,1955562222,2024104815,2227730452,2361852424,2428436474,2756734187,3204031479,3329325298]
def be4 (a b c d:Int):Int:=a*16777216+b*65536+c*256+d
def wordAt (l:List Int) (i:Nat):Int:=be4 (l.getD (4*i) 0) (l.getD (4*i+1) 0) (l.getD (4*i+2) 0) (l.getD (4*i+3) 0)
def JY (l:List Int) (n:Nat):List Int:=(List.range n).map (wordAt l)
theorem Ad (l:List Int) (n:Nat):(JY l n).length=n:=by simp [JY]
theorem X7 (l:List Int) (n:Nat):JY l (n+1)=JY l n++[wordAt l n]:=by simp [JY,List.range_succ]
theorem NAD {a b c d:Int} (ha:0≤a∧a≤255) (hb:0≤b∧b≤255) (hc:0≤c∧c≤255) (hd:0≤d∧d≤255):R32 (be4 a b c d):=by unfold R32 be4;omega
theorem OAD {l:List Int} (h:CV l) (i:Nat):R32 (wordAt l i):=NAD (LZ h _) (LZ h _) (LZ h _) (LZ h _)
theorem Iy {l:List Int} (h:CV l) (n:Nat):∀ x ∈ JY l n,R32 x:=by
 intro x hx
 simp only [JY,List.mem_map] at hx
 obtain ⟨i,_,rfl⟩:=hx
 exact OAD h i
def comp (s:Reg) (b:List Int):Reg:=Zf s (VY keysL (sched (JY b 16) 48) s 64)
theorem Y7 (s:Reg) (b:List Int):(comp s b).ok:=MAD _ _
def comps:Nat→Reg→List Int→Reg
 | 0,s,_=>s
 | n+1,s,b=>comps n (comp s (b.take 64)) (b.drop 64)
theorem Ag {s:Reg} (h:s.ok):∀ (n:Nat) (b:List Int),(comps n s b).ok:=by
 intro n
 induction n generalizing s with
 | zero=>intro b;exact h
 | succ n ih=>intro b;exact ih (Y7 _ _) _
theorem Z7 (n m:Nat):∀ (s:Reg) (b:List Int),comps (n+m) s b=comps m (comps n s b) (b.drop (64*n)):=by
 induction n with
 | zero=>intro s b;simp [comps]
 | succ n ih=>
  intro s b
  rw [Nat.add_right_comm,comps,comps,ih,List.drop_drop]
  congr 2
  omega
theorem PAD (n:Nat):∀ (s:Reg) (b c:List Int),64*n≤b.length→comps n s (b++c)=comps n s b:=by
 induction n with
 | zero=>intro s b c _;rfl
 | succ n ih=>
  intro s b c h
  rw [comps,comps,List.take_append_of_le_length (by omega),List.drop_append_of_le_length (by omega),ih _ _ _ (by simp;omega)]
def four (x:Int):List Int:=[x / 16777216,x / 65536 % 256,x / 256 % 256,x % 256]
theorem Zp {x:Int} (h:R32 x):CV (four x):=by
 intro n hn
 unfold R32 at h
 simp only [four,List.mem_cons,List.not_mem_nil,or_false] at hn
 rcases hn with rfl | rfl | rfl | rfl <;> omega
def TT (ws:List Int):List Int:=ws.flatMap four
theorem Eh (ws:List Int):(TT ws).length=4*ws.length:=by
 induction ws with
 | nil=>rfl
 | cons w ws ih=>
  rw [show TT (w::ws)=four w++TT ws from rfl,List.length_append,ih]
  simp only [four,List.length_cons,List.length_nil];omega
theorem Jy {ws:List Int} (h:∀ x ∈ ws,R32 x):CV (TT ws):=by
 intro n hn
 simp only [TT,List.mem_flatMap] at hn
 obtain ⟨x,hx,hn⟩:=hn
 exact Zp (h x hx) n hn
theorem A8 (a b:List Int):TT (a++b)=TT a++TT b:=by simp [TT]
theorem QAD {x:Int} (h:R32 x):be4 (x / 16777216) (x / 65536 % 256) (x / 256 % 256) (x % 256)=x:=by unfold R32 at h;unfold be4;omega
theorem D8:∀ {ws:List Int} (_:∀ x ∈ ws,R32 x) {i:Nat} (hi:i<ws.length),wordAt (TT ws) i=ws[i]
 | w::ws,h,0,_=>by
  have:=QAD (h w (List.mem_cons_self ..))
  simpa [wordAt,TT,four] using this
 | w::ws,h,i+1,hi=>by
  have ih:=D8 (ws:=ws) (fun x hx=>h x (List.mem_cons_of_mem _ hx)) (i:=i) (by simpa using hi)
  rw [List.getElem_cons_succ,←ih]
  have e:∀ j,(TT (w::ws)).getD (j+4) 0=(TT ws).getD j 0:=fun j=>by simp [TT,four,List.getD]
  unfold wordAt
  rw [show 4*(i+1)=4*i+4 by omega,show 4*i+4+1=(4*i+1)+4 by omega,show 4*i+4+2=(4*i+2)+4 by omega,show 4*i+4+3=(4*i+3)+4 by omega,e,e,e,e]
theorem RAD {ws:List Int} (h:∀ x ∈ ws,R32 x):JY (TT ws) ws.length=ws:=by
 apply List.ext_getElem
 ·rw [Ad]
 ·intro i h1 h2
  simp only [JY,List.getElem_map,List.getElem_range]
  exact D8 h h2
theorem Reg.Bg {r:Reg} (h:r.ok):∀ x ∈ r.l,R32 x:=by
 intro x hx
 simp only [Reg.l,List.mem_cons,List.not_mem_nil,or_false] at hx
 obtain ⟨h1,h2,h3,h4,h5,h6,h7,h8⟩:=h
 rcases hx with rfl | rfl | rfl | rfl | rfl | rfl | rfl | rfl <;> assumption
def WZ:Reg:=⟨1779033703,3144134277,1013904242,2773480762,1359893119,2600822924,528734635,1541459225⟩
theorem Td:WZ.ok:=by unfold Reg.ok R32 WZ;decide
def Oa (n:Int):List Int:=[0,0,0,n / 4294967296 % 256,n / 16777216 % 256,n / 65536 % 256,n / 256 % 256,n % 256]
def LY (n:Nat):List Int:=128::(List.replicate ((119 - n % 64) % 64) 0++Oa (8*(n:Int)))
theorem Aq (n:Nat):(LY n).length=9+(119 - n % 64) % 64:=by simp [LY,Oa];omega
theorem SAD (n:Nat):(n+(LY n).length) % 64=0:=by rw [Aq];omega
theorem Ky (n:Nat):CV (LY n):=by
 intro x hx
 simp only [LY,Oa,List.mem_cons,List.mem_append,List.mem_replicate,List.not_mem_nil,or_false] at hx
 omega
def NZ (b:List Int):List Int:=TT (comps ((b.length+(LY b.length).length) / 64) WZ (b++LY b.length)).l
def Qa (s:ByteArray):ByteArray:=ofBytes (NZ (bs s))
theorem Ny (b:List Int):(NZ b).length=32:=by rw [NZ,Eh];rfl
theorem E8 (b:List Int):CV (NZ b):=Jy (Reg.Bg (Ag Td _ _))
theorem Fg (s:ByteArray):(Qa s).size=32:=by rw [Qa,ofBytes_size,Ny]
theorem Bq (s:ByteArray):bs (Qa s)=NZ (bs s):=NM (E8 _)
def xb (x y:Int):Int:=w8 (((BitVec.toNat ((BitVec.ofInt (IntKind.bits IntKind.u8) x) ^^^ (BitVec.ofInt (IntKind.bits IntKind.u8) y))):Nat):Int)
theorem Dq (x y:Int):w8 (((BitVec.toNat ((BitVec.ofInt (IntKind.bits IntKind.u8) x) ^^^ (BitVec.ofInt (IntKind.bits IntKind.u8) y))):Nat):Int)=xb x y:=rfl
theorem F8 (x y:Int):0≤xb x y∧xb x y≤255:=by unfold xb;rw [w8_mod];omega
theorem TAD {x:Int} (h:0≤x∧x≤255) (y:Int):xb (xb x y) y=x:=by
 have e:∀ (a b:BitVec 8),BitVec.ofInt 8 (((a ^^^ b).toNat:Nat):Int) ^^^ b=a:=by
  intro a b
  rw [BitVec.ofInt_natCast,BitVec.ofNat_toNat,BitVec.setWidth_eq,BitVec.xor_assoc,BitVec.xor_self,BitVec.xor_zero]
 have h8:∀ (a b:BitVec 8),w8 (((a ^^^ b).toNat:Nat):Int)=(((a ^^^ b).toNat:Nat):Int):=fun a b=>by
  have:=(a ^^^ b).isLt;rw [w8_id (by omega) (by omega)]
 unfold xb
 show w8 (((BitVec.ofInt 8 (w8 (((BitVec.ofInt 8 x ^^^ BitVec.ofInt 8 y).toNat:Nat):Int)) ^^^ BitVec.ofInt 8 y).toNat:Nat):Int)=x
 rw [h8 (BitVec.ofInt 8 x),e,BitVec.toNat_ofInt,w8_mod]
 omega
def DZ (x:Int) (l:List Int):List Int:=l.map fun b=>xb b x
theorem Fq (x:Int) (l:List Int):(DZ x l).length=l.length:=by simp [DZ]
theorem Gq (x:Int) (l:List Int):CV (DZ x l):=fun n hn=>by
 simp only [DZ,List.mem_map] at hn
 obtain ⟨b,_,rfl⟩:=hn
 exact F8 _ _
def PY (k:List Int):List Int:=k++List.replicate (64 - k.length) 0
def Ua (k:List Int):List Int:=if 64<k.length then PY (NZ k) else PY k
theorem UAD (k:List Int):(Ua k).length=64:=by
 unfold Ua PY
 split
 ·rw [List.length_append,List.length_replicate,Ny]
 ·rw [List.length_append,List.length_replicate];omega
def Va (k s:List Int):List Int:=NZ (DZ 92 (Ua k)++NZ (DZ 54 (Ua k)++s))
def Qb (k s:ByteArray):ByteArray:=ofBytes (Va (bs k) (bs s))
theorem Fh (k s:List Int):(Va k s).length=32:=Ny _
theorem Zl (k s:List Int):CV (Va k s):=E8 _
theorem G8 (k s:ByteArray):bs (Qb k s)=Va (bs k) (bs s):=NM (Zl _ _)
theorem H8 (k s:ByteArray):(Qb k s).size=32:=by rw [Qb,ofBytes_size,Fh]
theorem VAD {α:Type} (f:α→α) {l:List α} {i:Nat} (h:i<l.length):((l.take i).map f++l.drop i).set i (f l[i])=(l.take (i+1)).map f++l.drop (i+1):=by
 rw [drop_at h,Vf (by simp;omega),take_at h,List.map_append,List.append_assoc]
 rfl
theorem WAD {f:Int→Int} {l:List Int} {i:Nat} (h:i<l.length):((l.take i).map f++l.drop i).getD i 0=l[i]:=by
 rw [Ah (by simp;omega)]
 simp [List.getD,Nat.min_eq_left (Nat.le_of_lt h),h]
def QY (x a b:Int):Bool:=decide (a≤x) && decide (x≤b)
theorem OZ {x a b:Int}:QY x a b=true↔a≤x∧x≤b:=by simp [QY]
theorem Gh (x a b:Int):Aa x a b=some (QY x a b):=by
 show (bif decide (a≤x) then some (decide (x≤b)) else some false)=some (QY x a b)
 unfold QY;cases decide (a≤x) <;> rfl
def Ub (k v:List Int):Nat→List Int
 | 0=>[]
 | i+1=>Ub k v i++Va k (109::(v++[(i:Int)]))
theorem Bd (k v:List Int) (i:Nat):(Ub k v i).length=32*i:=by
 induction i with
 | zero=>rfl
 | succ i ih=>rw [Ub,List.length_append,ih,Fh];omega
theorem Hq (k v:List Int) (i:Nat):CV (Ub k v i):=by
 induction i with
 | zero=>intro n hn;cases hn
 | succ i ih=>
  intro n hn
  rcases List.mem_append.1 hn with hn | hn
  ·exact ih n hn
  ·exact Zl _ _ n hn
def RY (k v:List Int) (n:Nat):List Int:=(Ub k v ((n+31) / 32)).take n
theorem PZ (k v:List Int) (n:Nat):(RY k v n).length=n:=by rw [RY,List.length_take,Bd];omega
theorem Am (k v:List Int) (n:Nat):CV (RY k v n):=fun x hx=>Hq _ _ _ x (List.mem_of_mem_take hx)
def maskOk (num:Int) (n:Int):Bool:=QY num 0 1000000000 && QY n 0 8000
def Ud (k:ByteArray) (num:Int) (n:Int):ByteArray×Bool:=bif maskOk num n then (ofBytes (RY (bs k) (IK num) n.toNat),true) else (⟨#[]⟩,false)
theorem Vd:∀ {n:Int},0≤n→CV (IK n):=by
 intro n
 induction n using IK.induct with
 | case1 n hn ih=>
  intro h x hx
  rw [IK,if_pos hn] at hx
  rcases List.mem_cons.1 hx with rfl | hx
  ·omega
  ·exact ih (by omega) x hx
 | case2 n hn=>
  intro h x hx
  rw [IK,if_neg hn] at hx
  rw [List.mem_singleton] at hx
  subst hx
  rw [w8_mod];omega
theorem I8 (k:ByteArray) {num:Int} (hn:0≤num) (hn2:num≤1000000000) (i:Nat) (hi:i≤255) :
  Qb k (((⟨#[109]⟩:ByteArray)++ofBytes (IK num))++ofBytes [(i:Int)])=ofBytes (Va (bs k) (109::(IK num++[(i:Int)]))):=by
 have e:bs (⟨#[109]⟩:ByteArray)=[109]:=rfl
 rw [Qb,OY,OY,NM (Vd hn),e,NM (fun x hx=>by rw [List.mem_singleton] at hx;omega)]
 rfl
def KY (a b:List Int):List Int:=List.zipWith xb a b
theorem Xd {a b:List Int} (h:a.length≤b.length):(KY a b).length=a.length:=by rw [KY,List.length_zipWith];omega
theorem Vb (a b:List Int):CV (KY a b):=by
 intro n hn
 rw [KY,List.mem_iff_getElem] at hn
 obtain ⟨i,hi,rfl⟩:=hn
 rw [List.getElem_zipWith]
 exact F8 _ _
theorem Oy {α:Type} (f:α→α→α):∀ (a b:List α),List.zipWith f a (b.take a.length)=List.zipWith f a b
 | [],_=>rfl
 | _::_,[]=>rfl
 | x::a,y::b=>by rw [List.length_cons,List.take_succ_cons,List.zipWith_cons_cons,List.zipWith_cons_cons,Oy f a b]
theorem J8 {a b:List Int} {i:Nat} (h:i<a.length) (h2:i<b.length):(List.zipWith xb (a.take i) (b.take i)++a.drop i).set i (xb a[i] (b.getD i 0))=List.zipWith xb (a.take (i+1)) (b.take (i+1))++a.drop (i+1):=by
 rw [drop_at h,Vf (by simp;omega),take_at h,take_at h2,getD_at h2,List.zipWith_append (by simp;omega),List.append_assoc]
 rfl
theorem L8 {a b:List Int} {i:Nat} (h:i<a.length) (h2:i<b.length):(List.zipWith xb (a.take i) (b.take i)++a.drop i).getD i 0=a[i]:=by
 rw [Ah (by simp;omega)]
 simp [List.getD,Nat.min_eq_left (Nat.le_of_lt h),Nat.min_eq_left (Nat.le_of_lt h2),h]
def IZ (k:List Int) (num:Int) (s:List Int):List Int:=(Va k (116::(IK num++s))).take 16
theorem Ih (k:List Int) (num:Int) (s:List Int):(IZ k num s).length=16:=by rw [IZ,List.length_take,Fh];rfl
theorem Xa (k:List Int) (num:Int) (s:List Int):CV (IZ k num s):=fun x hx=>Zl _ _ x (List.mem_of_mem_take hx)
def NY (k:List Int) (num:Int) (s:List Int):List Int:=KY s (RY k (IK num) s.length)++IZ k num (KY s (RY k (IK num) s.length))
def EZ (k:ByteArray) (num:Int) (s:ByteArray):ByteArray×Bool:=bif maskOk num s.size then (ofBytes (NY (bs k) num (bs s)),true) else (⟨#[]⟩,false)
def SN (k:ByteArray) (num:Int) (t:ByteArray):ByteArray×Bool:=
 bif decide ((t.size:Int)<16) || !(maskOk num ((t.size:Int) - 16)) then (⟨#[]⟩,false)
 else bif IZ (bs k) num ((bs t).take (t.size - 16)) == (bs t).drop (t.size - 16) then (ofBytes (KY ((bs t).take (t.size - 16)) (RY (bs k) (IK num) (t.size - 16))),true)
 else (⟨#[]⟩,false)
theorem Cm {num n:Int}:maskOk num n=true↔(0≤num∧num≤1000000000)∧0≤n∧n≤8000:=by rw [maskOk,Bool.and_eq_true,OZ,OZ]
def SY (l:List Int):List Int:=(IK (l.length:Int)++l)++List.replicate ((16 - (IK (l.length:Int)++l).length % 16) % 16) 0
theorem Iq {l:List Int} (h:CV l):CV (SY l):=by
 intro x hx
 simp only [SY,List.mem_append,List.mem_replicate] at hx
 rcases hx with (hx | hx) | hx
 ·exact Vd (by omega) x hx
 ·exact h x hx
 ·omega
theorem Em {l:List Int} (h:l.length≤1000000000):(SY l).length≤l.length+25∧(SY l).length % 16=0:=by
 have h1:=Yc (n:=(l.length:Int)) (by omega)
 unfold SY
 simp only [List.length_append,List.length_replicate]
 omega
def WY (k s:ByteArray):ByteArray×Bool:=bif decide ((s.size:Int) > 400) then (⟨#[]⟩,false) else EZ k 0 (ofBytes (SY (bs s)))
theorem N8 {s:ByteArray} (h:s.size≤1000000000):Ie s=some (ofBytes (SY (bs s))):=by
 have h1:=Yc (n:=(s.size:Int)) (by omega)
 have hl:=bs_len s
 have hz:(ofBytes (IK (s.size:Int))++s).size=(IK (s.size:Int)++bs s).length:=by rw [ByteArray.size_append,ofBytes_size,List.length_append,hl]
 have hlen:(IK (s.size:Int)++bs s).length=(IK (s.size:Int)).length+s.size:=by rw [List.length_append,hl]
 rw [Ie,Ls,Gy (by omega),Option.bind_some,TB (by rw [ofBytes_size,decide_eq_true_eq];omega),hz]
 have e:(w64 (16 - (((IK (s.size:Int)++bs s).length:Int).tmod 16))).tmod 16=(((16 - (IK (s.size:Int)++bs s).length % 16) % 16:Nat):Int):=by
  have a:((IK (s.size:Int)++bs s).length:Int).tmod 16=((IK (s.size:Int)++bs s).length:Int) % 16:=Int.tmod_eq_emod_of_nonneg (by omega)
  rw [a,w64_id (by omega) (by omega),Int.tmod_eq_emod_of_nonneg (by omega)]
  omega
 rw [e,Hy (by omega),Option.bind_some,TB (by rw [ofBytes_size,List.length_replicate,decide_eq_true_eq];omega)]
 refine congrArg some (KZ ?_)
 rw [OY,OY,NM (Vd (by omega)),NM (fun x hx=>by have:=List.eq_of_mem_replicate hx;omega),NM (Iq (VZ s)),SY,hl]
theorem Gm (x a b:Int):YZ x a b=some (QY x a b):=by
 show (bif decide (a≤x) then some (decide (x≤b)) else some false)=some (QY x a b)
 unfold QY;cases decide (a≤x) <;> rfl
theorem XAD {n:Int}:Me n=some (bif QY n 0 1000000000 then (ofBytes (IK n),true) else (⟨#[]⟩,false)):=by
 simp only [Me,Qs,Gm,Option.bind_some]
 cases h:QY n 0 1000000000
 ·rfl
 ·rw [OZ] at h
  rw [Bool.not_true,cond_false,Gy (by omega),Option.bind_some,cond_true]
theorem YAD {n:Int} (h:0≤n) (h2:n≤255):Oe n=some (ofBytes [n]):=by
 simp only [Oe,Us,w8_id h h2]
theorem O8 {x:Int} (h:R32 x):Ic x=some (ofBytes (four x)):=by
 obtain ⟨h1,h2⟩:=h
 have e1:Int.fdiv x (2 ^ (Min.min (24:Int).toNat (IntKind.bits IntKind.u32)))=x / 16777216:=Int.fdiv_eq_ediv_of_nonneg _ (by decide)
 have e2:Int.fdiv x (2 ^ (Min.min (16:Int).toNat (IntKind.bits IntKind.u32)))=x / 65536:=Int.fdiv_eq_ediv_of_nonneg _ (by decide)
 have e3:Int.fdiv x (2 ^ (Min.min (8:Int).toNat (IntKind.bits IntKind.u32)))=x / 256:=Int.fdiv_eq_ediv_of_nonneg _ (by decide)
 simp only [Ic,Ws,e1,e2,e3,w8_mod,four]
 rw [show x / 16777216 % 256=x / 16777216 by omega]
theorem ZAD {n:Nat} (h:n<1099511627776):Ei (n:Int)=some (ofBytes (Oa (n:Int))):=by
 have e1:Int.fdiv (n:Int) (2 ^ (Min.min (32:Int).toNat (IntKind.bits IntKind.i64)))=(n:Int) / 4294967296:=Int.fdiv_eq_ediv_of_nonneg _ (by decide)
 simp only [Ei,Gt,e1,O8 (GZ _),Option.bind_some]
 rw [TB (by rw [ofBytes_size,ofBytes_size];simp [four])]
 congr 1
 apply KZ
 rw [OY,NM (Zp (GZ _)),NM (Zp (GZ _)),NM (fun x hx=>by
  simp only [Oa,List.mem_cons,List.not_mem_nil,or_false] at hx
  omega)]
 simp only [four,Oa,Xf,List.cons_append,List.nil_append,List.cons.injEq,and_true]
 omega
theorem AAE {n:Nat} (h:n≤100000000000):Gi (n:Int)=some (ofBytes (LY n)):=by
 have e1:(w64 (119 - ((n:Int).tmod 64))).tmod 64=(((119 - n % 64) % 64:Nat):Int):=by
  have a:(n:Int).tmod 64=(n:Int) % 64:=Int.tmod_eq_emod_of_nonneg (by omega)
  rw [a,w64_id (by omega) (by omega),Int.tmod_eq_emod_of_nonneg (by omega)]
  omega
 have e2:w64 (8*(n:Int))=((8*n:Nat):Int):=by rw [w64_id (by omega) (by omega)];omega
 have h0:(⟨#[128]⟩:ByteArray).size=1:=rfl
 simp only [Gi,Jt,e1,e2,Hy (n:=(119 - n % 64) % 64) (by omega),ZAD (n:=8*n) (by omega),Option.bind_some]
 rw [TB (by rw [ofBytes_size];simp [h0];omega),TB (by rw [ByteArray.size_append,ofBytes_size,ofBytes_size];simp [h0,Oa];omega)]
 congr 1
 apply KZ
 have hb:CV (List.replicate ((119 - n % 64) % 64) (0:Int)):=fun x hx=>by
  have:=List.eq_of_mem_replicate hx;omega
 have hb2:CV (Oa ((8*n:Nat):Int)):=fun x hx=>by
  simp only [Oa,List.mem_cons,List.not_mem_nil,or_false] at hx
  omega
 rw [OY,OY,NM hb,NM hb2,NM (Ky n),LY]
 have e3:bs (⟨#[128]⟩:ByteArray)=[128]:=rfl
 rw [e3]
 simp
theorem BAE {x:Int} (h:R32 x) (n:Nat) (hn:0<n) (hn2:n<32) (k:Int) (hk:wu64 (((BitVec.toNat ((BitVec.ofInt (IntKind.bits IntKind.u64) (wu64 k)) &&& (BitVec.ofInt (IntKind.bits IntKind.u64) (31:Int)))):Nat):Int)=((32 - n:Nat):Int))
  (hk2:wu64 (32 - ((32 - n:Nat):Int))=(n:Int)):Ii x k=some (rt (2 ^ n) (2 ^ (32 - n)) x):=by
 have e1:Min.min ((32 - n:Nat):Int).toNat (IntKind.bits IntKind.u32)=32 - n:=by
  show Min.min ((32 - n:Nat):Int).toNat 32=_
  omega
 have e2:Min.min (n:Int).toNat (IntKind.bits IntKind.u32)=n:=by
  show Min.min (n:Int).toNat 32=_
  omega
 have e3:Int.fdiv x (2 ^ n)=x / 2 ^ n:=Int.fdiv_eq_ediv_of_nonneg _ (Int.le_of_lt (Int.pow_pos (by omega)))
 simp only [Ii,Ot,hk,hk2,e1,e2,e3]
 rw [show decide ((0:Int)≤(n:Int))=true from decide_eq_true (by omega)]
 simp only [cond_true,N7]
 rw [JAD h n hn hn2]
theorem Xb {x:Int} (h:R32 x) (n:Nat) (hn:0<n) (hn2:n<32) (hk:wu64 (((BitVec.toNat ((BitVec.ofInt (IntKind.bits IntKind.u64) (wu64 (w64 (0 - (n:Int))))) &&& (BitVec.ofInt (IntKind.bits IntKind.u64) (31:Int)))):Nat):Int)=((32 - n:Nat):Int))
  (hk2:wu64 (32 - ((32 - n:Nat):Int))=(n:Int)):TY x (n:Int)=some (rt (2 ^ n) (2 ^ (32 - n)) x):=by
 simp only [TY,Rt,BAE h n hn hn2 _ hk hk2,Option.bind_some]
theorem CAE {x:Int} (h:R32 x):TY x 2=some (rt 4 1073741824 x):=Xb h 2 (by decide) (by decide) (by decide) (by decide)
theorem DAE {x:Int} (h:R32 x):TY x 13=some (rt 8192 524288 x):=Xb h 13 (by decide) (by decide) (by decide) (by decide)
theorem EAE {x:Int} (h:R32 x):TY x 22=some (rt 4194304 1024 x):=Xb h 22 (by decide) (by decide) (by decide) (by decide)
theorem FAE {x:Int} (h:R32 x):TY x 6=some (rt 64 67108864 x):=Xb h 6 (by decide) (by decide) (by decide) (by decide)
theorem GAE {x:Int} (h:R32 x):TY x 11=some (rt 2048 2097152 x):=Xb h 11 (by decide) (by decide) (by decide) (by decide)
theorem HAE {x:Int} (h:R32 x):TY x 25=some (rt 33554432 128 x):=Xb h 25 (by decide) (by decide) (by decide) (by decide)
theorem IAE {x:Int} (h:R32 x):TY x 7=some (rt 128 33554432 x):=Xb h 7 (by decide) (by decide) (by decide) (by decide)
theorem JAE {x:Int} (h:R32 x):TY x 18=some (rt 262144 16384 x):=Xb h 18 (by decide) (by decide) (by decide) (by decide)
theorem KAE {x:Int} (h:R32 x):TY x 17=some (rt 131072 32768 x):=Xb h 17 (by decide) (by decide) (by decide) (by decide)
theorem LAE {x:Int} (h:R32 x):TY x 19=some (rt 524288 8192 x):=Xb h 19 (by decide) (by decide) (by decide) (by decide)
theorem MAE {a b:Int} (ha:0≤a∧a<16777216) (hb:0≤b∧b≤255):Vl (w32 (a*256)) (w32 b)=a*256+b:=by
 obtain ⟨x,rfl⟩:∃ x:Nat,a=(x:Int):=⟨a.toNat,by omega⟩
 obtain ⟨y,rfl⟩:∃ y:Nat,b=(y:Int):=⟨b.toNat,by omega⟩
 rw [La (by omega) (by omega),La (by omega) (by omega)]
 have:=O7 (a:=x) (b:=y) (s:=8) (by omega) (by omega) (by omega)
 have e:((x*2 ^ 8:Nat):Int)=(x:Int)*256:=by omega
 rw [Int.natCast_add,e] at this
 exact this
def XZ (l:List Int) (i:Nat):Nat→Int
 | 0=>0
 | k+1=>XZ l i k*256+l.getD (4*i+k) 0
theorem NAE (l:List Int) (i:Nat):XZ l i 4=wordAt l i:=by
 simp only [XZ,wordAt,be4,Nat.add_zero]
 omega
theorem OAE {l:List Int} (h:CV l) (i:Nat):∀ k,k<4→0≤XZ l i k∧XZ l i k<16777216
 | 0,_=>by simp [XZ]
 | 1,_=>by have:=LZ h (4*i+0);simp only [XZ];omega
 | 2,_=>by have:=LZ h (4*i+0);have:=LZ h (4*i+1);simp only [XZ];omega
 | 3,_=>by have:=LZ h (4*i+0);have:=LZ h (4*i+1);have:=LZ h (4*i+2);simp only [XZ];omega
theorem PAE {b:ByteArray} (hb:b.size=64) (v:List Int) (i:Nat) (hi:i<16):∀ (j k m:Nat),k+j=4→
  QZ (m+j+1) (.c1 b (i:Int) (i:Int) (k:Int) v (JY (bs b) i++XZ (bs b) i k::List.replicate (63 - i) 0))=QZ m (.c0 b ((i+1:Nat):Int) v (JY (bs b) (i+1)++List.replicate (63 - i) 0)):=by
 have hby:=VZ b
 intro j
 induction j with
 | zero=>
  intro k m h
  obtain rfl:k=4:=by omega
  have e:w64 ((i:Int)+1)=((i+1:Nat):Int):=by rw [w64_id (by omega) (by omega)];rfl
  rw [QZ]
  simp only [Md,e]
  rw [FN (by simp),NAE,X7]
  simp
 | succ j ih=>
  intro k m h
  have hk:k<4:=by omega
  have hlen:(JY (bs b) i++XZ (bs b) i k::List.replicate (63 - i) 0).length=64:=by
   simp only [List.length_append,List.length_cons,List.length_replicate,Ad];omega
  have e:w64 ((k:Int)+1)=((k+1:Nat):Int):=by rw [w64_id (by omega) (by omega)];rfl
  have e4:w64 (4*(i:Int))=((4*i:Nat):Int):=by rw [w64_id (by omega) (by omega)];omega
  have e5:w64 (((4*i:Nat):Int)+(k:Int))=((4*i+k:Nat):Int):=by rw [w64_id (by omega) (by omega)];omega
  have e8:(2:Int) ^ (Min.min (8:Int).toNat (IntKind.bits IntKind.u32))=256:=by decide
  have hg:(JY (bs b) i++XZ (bs b) i k::List.replicate (63 - i) 0).getD i 0=XZ (bs b) i k:=by
   rw [Ah (by rw [Ad];omega),Ad,Nat.sub_self];rfl
  rw [show m+(j+1)+1=(m+j+1)+1 by omega,QZ]
  simp only [Md,e,e4,e5,e8,Int.toNat_natCast,hlen,hg,N7]
  rw [TB (by simp;omega),TB (by rfl),TB (by simp;omega),TB (by simp;omega),TB (by rfl),TB (by simp;omega)]
  rw [Uc (by omega),MAE (OAE hby i k hk) (LZ hby _),Vf (Ad _ i)]
  exact ih (k+1) m (by omega)
theorem QAE {b:ByteArray} (hb:b.size=64) (v:List Int):∀ (j i m:Nat),i+j=16→QZ (m+6*j+1) (.c0 b (i:Int) v (JY (bs b) i++List.replicate (64 - i) 0))=QZ m (.c2 16 v (JY (bs b) 16++List.replicate 48 0)):=by
 intro j
 induction j with
 | zero=>
  intro i m h
  obtain rfl:i=16:=by omega
  rw [QZ]
  simp only [Md]
  rw [FN (by simp)]
 | succ j ih=>
  intro i m h
  rw [show m+6*(j+1)+1=(m+6*j+1)+4+1+1 by omega,QZ]
  simp only [Md]
  rw [TB (by simp;omega)]
  have h1:=PAE hb v i (by omega) 4 0 (m+6*j+1) (by omega)
  rw [show 64 - i=(63 - i)+1 by omega,List.replicate_succ]
  have h2:=ih (i+1) m (by omega)
  rw [show 64 - (i+1)=63 - i by omega] at h2
  exact h1.trans h2
theorem RAE {w v:List Int} (hw:∀ x ∈ w,R32 x) (hwl:w.length=16) (hv:v.length=64):∀ (j i m:Nat),i+j=48→QZ (m+j+1) (.c2 ((16+i:Nat):Int) v (sched w i++List.replicate (48 - i) 0))=some (sched w 48):=by
 intro j
 induction j with
 | zero=>
  intro i m h
  obtain rfl:i=48:=by omega
  have hl:=Wl hwl 48
  rw [QZ]
  simp only [Md,Nat.sub_self,List.replicate_zero,List.append_nil,hl,hv]
  rfl
 | succ j ih=>
  intro i m h
  have hl:=Wl hwl i
  have hr:=Yp hw i
  have hlen:(sched w i++List.replicate (48 - i) 0).length=64:=by
   simp only [List.length_append,List.length_replicate,hl];omega
  have e2:w64 (((16+i:Nat):Int) - 2)=((16+i - 2:Nat):Int):=by rw [w64_id (by omega) (by omega)];omega
  have e7:w64 (((16+i:Nat):Int) - 7)=((16+i - 7:Nat):Int):=by rw [w64_id (by omega) (by omega)];omega
  have e15:w64 (((16+i:Nat):Int) - 15)=((16+i - 15:Nat):Int):=by rw [w64_id (by omega) (by omega)];omega
  have e16:w64 (((16+i:Nat):Int) - 16)=((16+i - 16:Nat):Int):=by rw [w64_id (by omega) (by omega)];omega
  have e1:w64 (((16+i:Nat):Int)+1)=((16+(i+1):Nat):Int):=by rw [w64_id (by omega) (by omega)];omega
  have g2:(sched w i++List.replicate (48 - i) 0).getD (16+i - 2) 0=(sched w i).getD (16+i - 2) 0:=Ul (by omega) 0
  have g7:(sched w i++List.replicate (48 - i) 0).getD (16+i - 7) 0=(sched w i).getD (16+i - 7) 0:=Ul (by omega) 0
  have g15:(sched w i++List.replicate (48 - i) 0).getD (16+i - 15) 0=(sched w i).getD (16+i - 15) 0:=Ul (by omega) 0
  have g16:(sched w i++List.replicate (48 - i) 0).getD (16+i - 16) 0=(sched w i).getD (16+i - 16) 0:=Ul (by omega) 0
  have f10:∀ x:Int,Int.fdiv x (2 ^ (Min.min (10:Int).toNat (IntKind.bits IntKind.u32)))=x / 1024:=fun x=>Int.fdiv_eq_ediv_of_nonneg _ (by decide)
  have f3:∀ x:Int,Int.fdiv x (2 ^ (Min.min (3:Int).toNat (IntKind.bits IntKind.u32)))=x / 8:=fun x=>Int.fdiv_eq_ediv_of_nonneg _ (by decide)
  have r15:=Xl hr (16+i - 15)
  have r2:=Xl hr (16+i - 2)
  rw [show m+(j+1)+1=(m+j+1)+1 by omega,QZ]
  simp only [Md,e1,e2,e7,e15,e16,Int.toNat_natCast,hlen,g2,g7,g15,g16,IAE r15,JAE r15,KAE r2,LAE r2,Option.bind_some,f10,f3,Yf]
  rw [TB (by simp;omega),TB (by rfl),TB (by simp;omega),TB (by rfl),TB (by simp;omega),TB (by rfl),TB (by simp;omega),TB (by rfl),TB (by simp;omega),TB (by rfl),TB (by simp;omega)]
  rw [show 48 - i=(48 - (i+1))+1 by omega,List.replicate_succ,Vf (by omega)]
  have h2:=ih (i+1) m (by omega)
  rw [sched,List.append_assoc] at h2
  exact h2
theorem SAE {b:ByteArray} (hb:b.size=64):Qe b=some (sched (JY (bs b) 16) 48):=by
 obtain ⟨m,hm⟩:∃ m,gas=(m+48+1)+6*16+1:=⟨gas - 146,by have:=gas_lt (n:=146) (by omega);omega⟩
 rw [Qe,Tt,hm]
 have h0:=QAE hb (List.replicate 64 0) 16 0 (m+48+1) (by omega)
 have h2:=RAE (w:=JY (bs b) 16) (v:=List.replicate 64 0) (Iy (VZ b) 16) (Ad _ 16) (List.length_replicate ..) 48 0 m (by omega)
 rw [show JY (bs b) 0++List.replicate (64 - 0) 0=List.replicate 64 (0:Int) from rfl,show ((0:Nat):Int)=0 from rfl] at h0
 rw [show ((16+0:Nat):Int)=16 from rfl,show sched (JY (bs b) 16) 0=JY (bs b) 16 from rfl,show 48 - 0=48 from rfl] at h2
 rw [h0,h2]
theorem TAE {s:ByteArray} {i:Nat} (h:4*i+4≤s.size) (hs:s.size≤9000000000000000000):Hf s ((4*i:Nat):Int)=some (wordAt (bs s) i):=by
 have hb:=VZ s
 have e1:w64 (((4*i:Nat):Int)+1)=((4*i+1:Nat):Int):=by rw [w64_id (by omega) (by omega)];rfl
 have e2:w64 (((4*i:Nat):Int)+2)=((4*i+2:Nat):Int):=by rw [w64_id (by omega) (by omega)];rfl
 have e3:w64 (((4*i:Nat):Int)+3)=((4*i+3:Nat):Int):=by rw [w64_id (by omega) (by omega)];rfl
 simp only [Hf,Ov,e1,e2,e3]
 rw [TB (by simp;omega),TB (by simp;omega),TB (by simp;omega),TB (by simp;omega)]
 rw [Uc (by omega),Uc (by omega),Uc (by omega),Uc (by omega)]
 have b0:=LZ hb (4*i)
 have b1:=LZ hb (4*i+1)
 have b2:=LZ hb (4*i+2)
 have b3:=LZ hb (4*i+3)
 unfold wordAt be4
 simp only [Xf]
 congr 1
 omega
theorem P8 {s:ByteArray} (hs:s.size≤1000000000000):JZ s=some (JY (bs s) (s.size / 4)):=by
 have key:=loopN (A:=Unit) (n:=s.size / 4) (Lp:=Xj) (st:=fun i _=>.c0 s ((4*i:Nat):Int) (JY (bs s) i)) (Inv:=fun _ _=>True) (out:=fun _ _=>some (JY (bs s) (s.size / 4)))
  (fun m _ _=>by
   simp only [Xj,Uo]
   rw [w64_id (by omega) (by omega),FN (by simp;omega)])
  (fun m i _ hi _=>.inr ⟨(),by
   have e:w64 (((4*i:Nat):Int)+4)=((4*(i+1):Nat):Int):=by rw [w64_id (by omega) (by omega)];omega
   simp only [Xj,Uo,e,TAE (s:=s) (i:=i) (by omega) (by omega),Option.bind_some,Ad,X7]
   rw [TB (by simp;omega),TB (by simp;omega)],trivial,rfl⟩)
 exact key gas 0 () (Nat.zero_le _) (gas_lt (by omega)) trivial
theorem Yb {x low high:Int} (h:R32 x) (hl:0<low) (hh:0<high) (hlh:low*high=4294967296):Yj x low high=some (rt low high x):=by
 have hr:=IAD h hl hh hlh
 obtain ⟨h1,h2⟩:=h
 have e0:(!(low == 0))=true:=by simp;omega
 have d1:0≤x / low:=Int.ediv_nonneg h1 (by omega)
 have d2:0≤x % low*high:=Int.mul_nonneg (Int.emod_nonneg _ (by omega)) (by omega)
 unfold R32 rt at hr
 simp only [Yj,Sv,e0,cond_true,Int.tdiv_eq_ediv_of_nonneg h1,Int.tmod_eq_emod_of_nonneg h1]
 rw [La d1 (by omega),La d2 (by omega),La (by omega) (by omega)]
 rfl
theorem UAE {x:Int} (h:R32 x):UZ x 131072 524288 1024 true=some (sg1 x):=by
 have e1:w32 (w32 ((2147483648:Int).tdiv 131072)*2)=32768:=by decide
 have e2:w32 (w32 ((2147483648:Int).tdiv 524288)*2)=8192:=by decide
 have e3:w32 (x.tdiv 1024)=x / 1024:=by
  obtain ⟨h1,h2⟩:=h
  rw [Int.tdiv_eq_ediv_of_nonneg h1,La (by omega) (by omega)]
 simp only [UZ,Vg,e1,e2,e3,Yb h (low:=131072) (high:=32768) (by omega) (by omega) (by omega),Yb h (low:=524288) (high:=8192) (by omega) (by omega) (by omega),Option.bind_some,Yf]
 rfl
theorem VAE {x:Int} (h:R32 x):UZ x 128 262144 8 true=some (P7 x):=by
 have e1:w32 (w32 ((2147483648:Int).tdiv 128)*2)=33554432:=by decide
 have e2:w32 (w32 ((2147483648:Int).tdiv 262144)*2)=16384:=by decide
 have e3:w32 (x.tdiv 8)=x / 8:=by
  obtain ⟨h1,h2⟩:=h
  rw [Int.tdiv_eq_ediv_of_nonneg h1,La (by omega) (by omega)]
 simp only [UZ,Vg,e1,e2,e3,Yb h (low:=128) (high:=33554432) (by omega) (by omega) (by omega),Yb h (low:=262144) (high:=16384) (by omega) (by omega) (by omega),Option.bind_some,Yf]
 rfl
theorem WAE {x:Int} (h:R32 x):UZ x 64 2048 33554432 false=some (Q7 x):=by
 have e1:w32 (w32 ((2147483648:Int).tdiv 64)*2)=67108864:=by decide
 have e2:w32 (w32 ((2147483648:Int).tdiv 2048)*2)=2097152:=by decide
 have e3:w32 (w32 ((2147483648:Int).tdiv 33554432)*2)=128:=by decide
 simp only [UZ,Vg,e1,e2,e3,Yb h (low:=64) (high:=67108864) (by omega) (by omega) (by omega),Yb h (low:=2048) (high:=2097152) (by omega) (by omega) (by omega),Yb h (low:=33554432) (high:=128) (by omega) (by omega) (by omega),Option.bind_some,Yf]
 rfl
theorem XAE {x:Int} (h:R32 x):UZ x 4 8192 4194304 false=some (U7 x):=by
 have e1:w32 (w32 ((2147483648:Int).tdiv 4)*2)=1073741824:=by decide
 have e2:w32 (w32 ((2147483648:Int).tdiv 8192)*2)=524288:=by decide
 have e3:w32 (w32 ((2147483648:Int).tdiv 4194304)*2)=1024:=by decide
 simp only [UZ,Vg,e1,e2,e3,Yb h (low:=4) (high:=1073741824) (by omega) (by omega) (by omega),Yb h (low:=8192) (high:=524288) (by omega) (by omega) (by omega),Yb h (low:=4194304) (high:=1024) (by omega) (by omega) (by omega),Option.bind_some,Yf]
 rfl
theorem Q8 (s r:Reg):∀ i,i<8→(Zf s r).l.getD i 0=w32 (s.l.getD i 0+r.l.getD i 0)
 | 0,_=>rfl | 1,_=>rfl | 2,_=>rfl | 3,_=>rfl | 4,_=>rfl | 5,_=>rfl | 6,_=>rfl | 7,_=>rfl
 | n+8,h=>by omega
theorem LAH (n:Nat) (h:n<9223372036854775807):∃ m,gas=m+n:=⟨gas - n,by have:=gas_lt h;omega⟩
theorem YAE (s r:Reg):∀ (j i m:Nat),i+j=8→BZ (m+j+1) (.c3 s.l (i:Int) r.l ((Zf s r).l.take i))=some (Zf s r).l:=by
 intro j
 induction j with
 | zero=>
  intro i m h
  obtain rfl:i=8:=by omega
  simp only [BZ,Ib]
  rfl
 | succ j ih=>
  intro i m h
  have e:w64 ((i:Int)+1)=((i+1:Nat):Int):=by rw [w64_id (by omega) (by omega)];rfl
  have hl:∀ q:Reg,q.l.length=8:=fun _=>rfl
  rw [show m+(j+1)+1=(m+j+1)+1 by omega]
  simp only [BZ,Ib,e,Int.toNat_natCast]
  rw [TB (by simp;omega),TB (by simp [hl];omega),TB (by simp [hl];omega),TB (by simp [hl];omega)]
  have h3:=ih (i+1) m (by omega)
  rw [take_at (by rw [hl];omega),←getD_at (by rw [hl];omega) 0,Q8 _ _ _ (by omega)] at h3
  exact h3
def Py:Nat→List Int→List Int
 | 0,v=>v
 | i+1,v=>Py i (v.set (i+1) (v.getD i 0))
theorem ZAE (t o W:List Int) (k T1 T2:Int) (hk:0≤k∧k<64):∀ (i m:Nat) (v:List Int),i<8→v.length=8→BZ (m+i+1) (.c2 t o k T1 T2 (i:Int) W v)=BZ m (.c1 t o (k+1) W (((Py i v).set 4 (w32 ((Py i v).getD 4 0+T1))).set 0 (w32 (T1+T2)))):=by
 intro i
 induction i with
 | zero=>
  intro m v _ hl
  have e:w64 (k+1)=k+1:=w64_id (by omega) (by omega)
  simp only [BZ,Ib,e]
  rw [FN (by simp),TB (by simp [hl]),TB (by simp [hl]),TB (by simp [hl])]
  rfl
 | succ i ih=>
  intro m v hi hl
  have e:w64 (((i+1:Nat):Int) - 1)=(i:Int):=by rw [w64_id (by omega) (by omega)];omega
  rw [show m+(i+1)+1=(m+i+1)+1 by omega]
  rw [BZ]
  simp only [Ib,e,Int.toNat_natCast]
  rw [TB (by simp;try omega),TB (by simp [hl];try omega),TB (by simp [hl];try omega),ih m _ (by omega) (by simp [hl])]
  rfl
theorem AAF (t W:List Int) (r:Reg) (hr:r.ok) (hW:∀ x ∈ W,R32 x) (hWl:W.length=64) (i m:Nat) (hi:i<64) :
  BZ (m+9) (.c1 t keysL (i:Int) W r.l)=BZ m (.c1 t keysL ((i:Int)+1) W (Na r (keysL.getD i 0) (W.getD i 0)).l):=by
 obtain ⟨h1,h2,h3,h4,h5,h6,h7,h8⟩:=hr
 have hk:keysL.length=64:=rfl
 have g (q:Reg):q.l.getD 0 0=q.a∧q.l.getD 1 0=q.b∧q.l.getD 2 0=q.c∧q.l.getD 4 0=q.e∧q.l.getD 5 0=q.f∧q.l.getD 6 0=q.g∧q.l.getD 7 0=q.h:=⟨rfl,rfl,rfl,rfl,rfl,rfl,rfl⟩
 obtain ⟨g0,g1,g2,g4,g5,g6,g7⟩:=g r
 have hl:r.l.length=8:=rfl
 have z4:(4:Int).toNat=4:=rfl
 have z5:(5:Int).toNat=5:=rfl
 have z6:(6:Int).toNat=6:=rfl
 have z7:(7:Int).toNat=7:=rfl
 have z0:(0:Int).toNat=0:=rfl
 have z1:(1:Int).toNat=1:=rfl
 have z2:(2:Int).toNat=2:=rfl
 rw [show m+9=(m+7+1)+1 by omega,BZ]
 simp only [Ib,z0,z1,z2,z4,z5,z6,z7,g0,g1,g2,g4,g5,g6,g7,hl,hk,hWl,WAE h5,XAE h1,Option.bind_some,Yf,J7,Int.toNat_natCast]
 rw [TB (by simp;omega),TB (by simp),TB (by simp),TB (by simp),TB (by simp),TB (by simp;omega),TB (by simp;omega),TB (by simp),TB (by simp),TB (by simp),TB (by simp),TB (by simp),TB (by simp),TB (by simp)]
 exact ZAE t keysL W (i:Int) (t1 r (keysL.getD i 0) (W.getD i 0)) (t2 r) (by omega) 7 m r.l (by omega) rfl
theorem BAF (s:Reg) (hs:s.ok) (W:List Int) (hW:∀ x ∈ W,R32 x) (hWl:W.length=64):∀ (j i m:Nat),i+j=64→BZ (m+9*j+10) (.c1 s.l keysL (i:Int) W (VY keysL W s i).l)=some (Zf s (VY keysL W s 64)).l:=by
 intro j
 induction j with
 | zero=>
  intro i m h
  obtain rfl:i=64:=by omega
  rw [show m+9*0+10=(m+8+1)+1 by omega,BZ]
  simp only [Ib]
  rw [FN (by simp)]
  exact YAE s _ 8 0 m (by omega)
 | succ j ih=>
  intro i m h
  rw [show m+9*(j+1)+10=(m+9*j+10)+9 by omega,AAF s.l W _ (V7 keysL W hs i) hW hWl i _ (by omega)]
  exact ih (i+1) m (by omega)
theorem CAF (s:Reg) (hs:s.ok) (w:List Int) (hw:∀ x ∈ w,R32 x) (hwl:w.length=16):∀ (j i m:Nat),i+j=48→BZ (m+9*64+10+1+j) (.c0 s.l keysL ((16+i:Nat):Int) (sched w i))=some (Zf s (VY keysL (sched w 48) s 64)).l:=by
 intro j
 induction j with
 | zero=>
  intro i m h
  obtain rfl:i=48:=by omega
  rw [show m+9*64+10+1+0=(m+9*64+10)+1 by omega,BZ]
  simp only [Ib]
  rw [FN (by simp),TB (by simp [Reg.l])]
  exact BAF s hs _ (Yp hw 48) (Wl hwl 48) 64 0 m (by omega)
 | succ j ih=>
  intro i m h
  have hl:=Wl hwl i
  have hr:=Yp hw i
  have e2:w64 (((16+i:Nat):Int) - 2)=((16+i - 2:Nat):Int):=by rw [w64_id (by omega) (by omega)];omega
  have e7:w64 (((16+i:Nat):Int) - 7)=((16+i - 7:Nat):Int):=by rw [w64_id (by omega) (by omega)];omega
  have e15:w64 (((16+i:Nat):Int) - 15)=((16+i - 15:Nat):Int):=by rw [w64_id (by omega) (by omega)];omega
  have e16:w64 (((16+i:Nat):Int) - 16)=((16+i - 16:Nat):Int):=by rw [w64_id (by omega) (by omega)];omega
  have e1:w64 (((16+i:Nat):Int)+1)=((16+(i+1):Nat):Int):=by rw [w64_id (by omega) (by omega)];omega
  rw [show m+9*64+10+1+(j+1)=(m+9*64+10+1+j)+1 by omega,BZ]
  simp only [Ib,e1,e2,e7,e15,e16,Int.toNat_natCast,hl,UAE (Xl hr _),VAE (Xl hr _),Option.bind_some]
  rw [TB (by simp;omega),TB (by simp;omega),TB (by simp;omega),TB (by simp;omega),TB (by simp;omega),TB (by simp;omega)]
  exact ih (i+1) m (by omega)
theorem U8 {s:Reg} (hs:s.ok) {b:ByteArray} (hb:b.size=64):Ia s.l keysL b=some (comp s (bs b)).l:=by
 have hr:=Iy (VZ b) 16
 obtain ⟨m,hm⟩:∃ m,gas=m+9*64+10+1+48:=⟨gas - 635,by have:=gas_lt (n:=635) (by omega);omega⟩
 have h:=CAF s hs _ hr (Ad _ 16) 48 0 m (by omega)
 have e0:((16+0:Nat):Int)=16:=rfl
 rw [e0,show sched (JY (bs b) 16) 0=JY (bs b) 16 from rfl] at h
 rw [Ia,Tv,P8 (s:=b) (by omega),Option.bind_some,hb,hm]
 exact h
theorem DAF (s r v:List Int) (hs:s.length=8) (hv:v.length=8) (f:Nat→Int) (hf:∀ i,i<8→f i=w32 (r.getD i 0+s.getD i 0)) (hr:r.length=8):∀ (j i m:Nat),i+j=8→Fa (m+j+1) (.c1 (i:Int) s v ((List.range i).map f++r.drop i))=some ((List.range 8).map f):=by
 intro j
 induction j with
 | zero=>
  intro i m h
  obtain rfl:i=8:=by omega
  rw [Fa]
  simp only [Og]
  rw [FN (by simp),List.drop_of_length_le (by omega),List.append_nil,TB (by simp),TB (by simp [hv]),TB (by simp)]
 | succ j ih=>
  intro i m h
  have e:w64 ((i:Int)+1)=((i+1:Nat):Int):=by rw [w64_id (by omega) (by omega)];rfl
  have hl:((List.range i).map f++r.drop i).length=8:=by simp [hr];omega
  have hm:((List.range i).map f).length=i:=by simp
  have hg:((List.range i).map f++r.drop i).getD i 0=r.getD i 0:=by
   rw [Ah (by omega),hm,Nat.sub_self]
   simp [List.getD]
  rw [show m+(j+1)+1=(m+j+1)+1 by omega,Fa]
  simp only [Og,e,Int.toNat_natCast,hl,hs,hg]
  rw [TB (by simp;omega),TB (by rfl),TB (by simp;omega),TB (by rfl),TB (by simp;omega),TB (by rfl),TB (by simp;omega)]
  rw [drop_at (by omega:i<r.length),Vf hm,←hf i (by omega)]
  have h2:=ih (i+1) m (by omega)
  rw [List.range_succ,List.map_append,List.append_assoc] at h2
  exact h2
theorem EAF (s v W:List Int) (hW:∀ x ∈ W,R32 x) (hWl:W.length=64) (r:Reg) (hr:r.ok) (i m:Nat) (hi:i<64) :
  Fa (m+1) (.c0 r.a r.b r.c r.d r.e r.f r.g r.h (i:Int) s v W)=Fa m (.c0 (Na r (keysL.getD i 0) (W.getD i 0)).a (Na r (keysL.getD i 0) (W.getD i 0)).b (Na r (keysL.getD i 0) (W.getD i 0)).c (Na r (keysL.getD i 0) (W.getD i 0)).d (Na r (keysL.getD i 0) (W.getD i 0)).e (Na r (keysL.getD i 0) (W.getD i 0)).f (Na r (keysL.getD i 0) (W.getD i 0)).g (Na r (keysL.getD i 0) (W.getD i 0)).h ((i+1:Nat):Int) s v W):=by
 obtain ⟨h1,h2,h3,h4,h5,h6,h7,h8⟩:=hr
 have e:w64 ((i:Int)+1)=((i+1:Nat):Int):=by rw [w64_id (by omega) (by omega)];rfl
 rw [Fa]
 simp only [Og,e,Int.toNat_natCast,hWl,FAE h5,GAE h5,HAE h5,CAE h1,DAE h1,EAE h1,Option.bind_some,Yf,J7,GAD h5]
 rw [TB (by simp;omega),TB (by simp;omega),TB (by rw [Nat.blt_eq];omega),TB (by rfl),TB (by simp;omega)]
 rfl
theorem FAF (s v W:List Int) (hW:∀ x ∈ W,R32 x) (hWl:W.length=64) (r:Reg) (hr:r.ok):∀ (j i m:Nat),i+j=64→
  Fa (m+j+1) (.c0 (VY keysL W r i).a (VY keysL W r i).b (VY keysL W r i).c (VY keysL W r i).d (VY keysL W r i).e (VY keysL W r i).f (VY keysL W r i).g (VY keysL W r i).h (i:Int) s v W)=Fa m (.c1 0 s v (VY keysL W r 64).l):=by
 intro j
 induction j with
 | zero=>
  intro i m h
  obtain rfl:i=64:=by omega
  rw [Fa]
  simp only [Og]
  rw [FN (by simp)]
  rfl
 | succ j ih=>
  intro i m h
  rw [show m+(j+1)+1=(m+j+1)+1 by omega,EAF s v W hW hWl _ (V7 keysL W hr i) i _ (by omega)]
  exact ih (i+1) m (by omega)
theorem GAF {s:Reg} (hs:s.ok) {b:ByteArray} (hb:b.size=64):Ue s.l b=some (comp s (bs b)).l:=by
 obtain ⟨m,hm⟩:∃ m,gas=(m+8+1)+64+1:=⟨gas - 74,by have:=gas_lt (n:=74) (by omega);omega⟩
 have hr:=Yp (Iy (VZ b) 16) 48
 have hl:=Wl (Ad (bs b) 16) 48
 have hsl:s.l.length=8:=rfl
 have z0:(0:Int).toNat=0:=rfl
 have z1:(1:Int).toNat=1:=rfl
 have z2:(2:Int).toNat=2:=rfl
 have z3:(3:Int).toNat=3:=rfl
 have z4:(4:Int).toNat=4:=rfl
 have z5:(5:Int).toNat=5:=rfl
 have z6:(6:Int).toNat=6:=rfl
 have z7:(7:Int).toNat=7:=rfl
 rw [Ue,Ut,SAE hb,Option.bind_some,hm]
 simp only [hl,hsl,List.length_replicate,z0,z1,z2,z3,z4,z5,z6,z7]
 rw [TB (by rfl),TB (by rfl),TB (by rfl),TB (by rfl),TB (by rfl),TB (by rfl),TB (by rfl),TB (by rfl),TB (by rfl),TB (by rfl),TB (by rfl),TB (by rfl),TB (by rfl),TB (by rfl),TB (by rfl),TB (by rfl),TB (by rfl)]
 have h0:=FAF s.l [0,0,0,0,0,0,0,0] _ hr hl s hs 64 0 (m+8+1) (by omega)
 rw [show ((0:Nat):Int)=0 from rfl] at h0
 have hf:∀ i,i<8→(fun i=>w32 ((VY keysL (sched (JY (bs b) 16) 48) s 64).l.getD i 0+s.l.getD i 0)) i=w32 ((VY keysL (sched (JY (bs b) 16) 48) s 64).l.getD i 0+s.l.getD i 0):=fun _ _=>rfl
 have h1:=DAF s.l (VY keysL (sched (JY (bs b) 16) 48) s 64).l [0,0,0,0,0,0,0,0] rfl rfl _ hf rfl 8 0 m (by omega)
 rw [show ((0:Nat):Int)=0 from rfl,List.range_zero,List.map_nil,List.nil_append,List.drop_zero] at h1
 have e:(List.range 8).map (fun i=>w32 ((VY keysL (sched (JY (bs b) 16) 48) s 64).l.getD i 0+s.l.getD i 0))=(comp s (bs b)).l:=by
  apply List.ext_getElem
  ·rw [Reg.Yl,List.length_map,List.length_range]
  ·intro i h1 h2
   have hi:i<8:=by simpa using h1
   rw [List.getElem_map,List.getElem_range,←getD_at h2 0]
   rw [comp,Q8 _ _ i hi,Int.add_comm]
 rw [e] at h1
 exact h0.trans h1
theorem V8 {h:SHasher} (h1:h.fState.size=32) (h2:h.fRest.size<64) (h3:0≤h.fCount∧h.fCount≤1000000000) (h4:h.fCount % 64=(h.fRest.size:Int)):RZ h=some true:=by
 have e:QY h.fCount 0 1000000000=true:=by rw [OZ];omega
 simp only [RZ,Nv,Gh,Option.bind_some,e]
 rw [TB (by simp;omega),TB (by simp;omega),cond_true,Int.tmod_eq_emod_of_nonneg h3.1,h4]
 simp
theorem HAF {x:Int} (h:R32 x):[w8 (w32 (x.tdiv 16777216)),w8 ((w32 (x.tdiv 65536)).tmod 256),w8 ((w32 (x.tdiv 256)).tmod 256),w8 (x.tmod 256)]=four x:=by
 obtain ⟨h1,h2⟩:=h
 rw [Int.tdiv_eq_ediv_of_nonneg h1,Int.tdiv_eq_ediv_of_nonneg h1,Int.tdiv_eq_ediv_of_nonneg h1,Int.tmod_eq_emod_of_nonneg h1]
 rw [La (n:=x / 16777216) (by omega) (by omega),La (n:=x / 65536) (by omega) (by omega),La (n:=x / 256) (by omega) (by omega)]
 rw [Int.tmod_eq_emod_of_nonneg (by omega),Int.tmod_eq_emod_of_nonneg (by omega)]
 simp only [four,w8_mod,List.cons.injEq,and_true]
 omega
theorem Qy {ws:List Int} (h:∀ x ∈ ws,R32 x) (hl:ws.length≤1000000000000):Ba ws=some (ofBytes (TT ws)):=by
 have key:=loopN (A:=Unit) (n:=ws.length) (Lp:=Tj) (st:=fun i _=>.c0 ws (i:Int) (TT (ws.take i))) (Inv:=fun _ _=>True) (out:=fun _ _=>some (ofBytes (TT ws)))
  (fun m _ _=>by
   simp only [Tj,Po]
   rw [FN (by simp),List.take_length])
  (fun m i _ hi _=>.inr ⟨(),by
   have e:w64 ((i:Int)+1)=((i+1:Nat):Int):=by rw [w64_id (by omega) (by omega)];rfl
   simp only [Tj,Po,e,Int.toNat_natCast]
   rw [TB (by simp;omega),TB (by simp;omega),TB (by rw [Eh,List.length_take];simp;omega)]
   rw [getD_at hi,HAF (h _ (List.getElem_mem hi)),take_at hi,A8]
   simp [TT],trivial,rfl⟩)
 exact key gas 0 () (Nat.zero_le _) (gas_lt (by omega)) trivial
def Ed:SHasher:=⟨ofBytes (TT WZ.l),⟨#[]⟩,0⟩
theorem IAF:Vj=some Ed:=by
 have h:=Qy (ws:=WZ.l) (Reg.Bg Td) (by decide)
 have e:Oo=some WZ.l:=rfl
 simp only [Vj,Kv,e,h,Option.bind_some]
 rfl
theorem X8:Fb=some keysL:=rfl
theorem JAF (b:List Int) (i:Nat):(b.take (64*i+64)).drop (64*i)=(b.drop (64*i)).take 64:=by
 rw [List.drop_take];congr 1;omega
theorem Y8 (i:Nat) (s:Reg) (b:List Int):comps (i+1) s b=comp (comps i s b) ((b.drop (64*i)).take 64):=by
 rw [Z7 i 1];rfl
theorem Z8 {r:Reg} (h:r.ok):JZ (ofBytes (TT r.l))=some r.l:=by
 have hs:(ofBytes (TT r.l)).size=32:=by rw [ofBytes_size,Eh];rfl
 rw [P8 (by omega),hs,NM (Jy (Reg.Bg h))]
 exact congrArg some (RAD (Reg.Bg h))
theorem KAF {s:ByteArray} (hs:s.size≤1000000000):Jk Ed s=some ⟨ofBytes (TT (comps (s.size / 64) WZ (bs s)).l),s.extract (64*(s.size / 64)) s.size,(s.size:Int)⟩:=by
 have e0:RZ Ed=some true:=V8 (by rw [Ed,ofBytes_size,Eh];rfl) (by decide) (by decide) (by decide)
 have e1:((⟨#[]⟩:ByteArray)++s)=s:=KZ (by rw [OY];rfl)
 have key:=loopN (A:=Unit) (n:=s.size / 64) (Lp:=Ik) (st:=fun i _=>.c0 s s ((64*i:Nat):Int) Ed (⟨(⟨#[]⟩:ByteArray),(⟨#[]⟩:ByteArray),(0:Int)⟩:SHasher) (comps i WZ (bs s)).l keysL) (Inv:=fun _ _=>True)
  (out:=fun _ _=>some ⟨ofBytes (TT (comps (s.size / 64) WZ (bs s)).l),s.extract (64*(s.size / 64)) s.size,(s.size:Int)⟩)
  (fun m _ _=>by
   have hw:w64 (Ed.fCount+(s.size:Int))=(s.size:Int):=by
    show w64 ((0:Int)+(s.size:Int))=_
    rw [Int.zero_add,w64_id (by omega) (by omega)]
   rw [Ik]
   simp only [Zo,hw,Int.toNat_natCast]
   rw [w64_id (by omega) (by omega),FN (by simp;omega),Qy (Reg.Bg (Ag Td _ _)) (by simp [Reg.l]),Option.bind_some,TB (by simp;omega)])
  (fun m i _ hi _=>.inr ⟨(),by
   have e:w64 (((64*i:Nat):Int)+64)=((64*(i+1):Nat):Int):=by rw [w64_id (by omega) (by omega)];omega
   rw [Ik]
   simp only [Zo,e,Int.toNat_natCast]
   rw [TB (by simp;omega),TB (by simp;omega),U8 (Ag Td _ _) (by simp;omega),Option.bind_some,MZ,show 64*(i+1)=64*i+64 by omega,JAF,←Y8],trivial,rfl⟩)
 rw [Jk,Xv,e0,Option.bind_some,FN (by rfl)]
 have hw:w64 (Ed.fCount+(s.size:Int))=(s.size:Int):=by
  show w64 ((0:Int)+(s.size:Int))=_
  rw [Int.zero_add,w64_id (by omega) (by omega)]
 rw [hw,FN (by simp;omega),show Ed.fState=ofBytes (TT WZ.l) from rfl,Z8 Td,Option.bind_some,X8,Option.bind_some,show Ed.fRest=⟨#[]⟩ from rfl,e1]
 rw [TB (by (have:(⟨#[]⟩:ByteArray).size=0:=rfl);simp only [this,decide_eq_true_eq];omega)]
 exact key gas 0 () (Nat.zero_le _) (gas_lt (by omega)) trivial
theorem LAF {s:Reg} (hs:s.ok) {t:ByteArray} (ht:t.size≤1000000000000):Si s.l t=some ((comps (t.size / 64) s (bs t)).l,t.extract (64*(t.size / 64)) t.size):=by
 have key:∀ (j:Nat) (s:Reg) (t:ByteArray) (m:Nat),s.ok→t.size / 64=j→t.size≤1000000000000→Ri (m+j+1) (.c0 t s.l [0,0,0,0,0,0,0,0])=some ((comps j s (bs t)).l,t.extract (64*j) t.size):=by
  intro j
  induction j with
  | zero=>
   intro s t m hs hj ht
   rw [Ri]
   simp only [Tn,Reg.Yl]
   rw [FN (by simp;omega),TB (by rfl),TB (by rfl),TB (by rfl)]
   congr 2
   apply KZ
   rw [MZ,List.take_of_length_le (by rw [bs_len];omega)]
   rfl
  | succ j ih=>
   intro s t m hs hj ht
   have h64:(64:Int).toNat=64:=rfl
   have e1:bs (t.extract 0 64)=(bs t).take 64:=by rw [MZ];rfl
   have e2:bs (t.extract 64 t.size)=(bs t).drop 64:=by rw [MZ,List.take_of_length_le (by rw [bs_len];omega)]
   rw [show m+(j+1)+1=(m+j+1)+1 by omega,Ri]
   simp only [Tn,h64,Reg.Yl]
   rw [TB (by simp;omega),TB (by rfl),TB (by simp;omega)]
   rw [GAF hs (b:=t.extract 0 64) (by simp;omega),Option.bind_some]
   rw [Reg.Yl]
   rw [TB (by rfl)]
   rw [TB (by simp;omega)]
   rw [ih (comp s (bs (t.extract 0 64))) (t.extract 64 t.size) m (Y7 _ _) (by simp;omega) (by simp;omega),e1,e2]
   have e3:(t.extract 64 t.size).extract (64*j) (t.extract 64 t.size).size=t.extract (64*(j+1)) t.size:=by
    apply KZ
    rw [MZ,e2,MZ,List.take_of_length_le (by simp [bs_len]),List.take_of_length_le (by rw [bs_len];omega),List.drop_drop]
    congr 1
    omega
   rw [e3,comps]
 obtain ⟨m,hm⟩:∃ m,gas=m+t.size / 64+1:=⟨gas - (t.size / 64+1),by have:=gas_lt (n:=t.size / 64+1) (by omega);omega⟩
 rw [Si,Xt,hm]
 exact key _ s t m hs rfl ht
theorem MAF {r:Reg} (hr:r.ok):Wi r.l=some (ofBytes (TT r.l)):=by
 have hl:r.l.length=8:=rfl
 have hrl:=Reg.Bg hr
 have hby:∀ i,CV (TT (r.l.take i)):=fun i=>Jy (fun x hx=>hrl x (List.mem_of_mem_take hx))
 have key:=loopN (A:=Unit) (n:=8) (Lp:=Ui) (st:=fun i _=>.c0 (ofBytes (TT (r.l.take i))) r.l (i:Int)) (Inv:=fun _ _=>True) (out:=fun _ _=>some (ofBytes (TT r.l)))
  (fun m _ _=>by
   rw [Ui]
   simp only [Un]
   rw [FN (by simp)]
   rfl)
  (fun m i _ hi _=>.inr ⟨(),by
   have e:w64 ((i:Int)+1)=((i+1:Nat):Int):=by rw [w64_id (by omega) (by omega)];rfl
   have hg:r.l.getD i 0=r.l[i]'(by omega):=getD_at (by omega) 0
   have hx:R32 (r.l.getD i 0):=Xl hrl i
   rw [Ui]
   simp only [Un,e,Int.toNat_natCast,O8 hx,Option.bind_some,hl]
   rw [TB (by simp;omega),TB (by rfl),TB (by simp;omega),TB (by rw [ofBytes_size,ofBytes_size,Eh];simp [four];omega)]
   congr 2
   apply KZ
   rw [OY,NM (hby i),NM (hby (i+1)),NM (Zp hx),take_at (by omega),A8,hg]
   simp [TT],trivial,rfl⟩)
 rw [Wi,Zt,hl,TB (by rfl)]
 exact key gas 0 () (Nat.zero_le _) (gas_lt (by omega)) trivial
theorem NAF:Gn=some WZ.l:=rfl
theorem Ry {s:ByteArray} (hs:s.size≤1000000000):Ve s=some (Qa s):=by
 have h1:=Aq s.size
 have hsz:(s++ofBytes (LY s.size)).size=s.size+(LY s.size).length:=by rw [ByteArray.size_append,ofBytes_size]
 rw [Ve,Du,NAF,Option.bind_some,AAE (n:=s.size) (by omega),Option.bind_some,TB (by rw [ofBytes_size];simp;omega),LAF Td (by omega),Option.bind_some]
 simp only [Reg.Yl]
 rw [TB (by rfl),TB (by rfl),MAF (Ag Td _ _),Option.bind_some,hsz,OY,NM (Ky _),Qa,NZ,bs_len]
theorem C9 {s:ByteArray} {x:Int} (hs:s.size≤140737488351232):Xe s x=some (ofBytes (DZ x (bs s))):=by
 have hl:=bs_len s
 have key:=loopN (A:=Unit) (n:=(bs s).length) (Lp:=Yi) (st:=fun i _=>.c0 x ((bs s).length:Int) (i:Int) (((bs s).take i).map (fun b=>xb b x)++(bs s).drop i)) (Inv:=fun _ _=>True) (out:=fun _ _=>some (ofBytes (DZ x (bs s))))
  (fun m _ _=>by
   rw [Yi]
   simp only [Wn]
   rw [FN (by simp),List.take_length,List.drop_length,List.append_nil];rfl)
  (fun m i _ hi _=>.inr ⟨(),by
   have e:w64 ((i:Int)+1)=((i+1:Nat):Int):=by rw [w64_id (by omega) (by omega)];rfl
   have hlen:(((bs s).take i).map (fun b=>xb b x)++(bs s).drop i).length=(bs s).length:=by simp;omega
   rw [Yi]
   simp only [Wn,e,Int.toNat_natCast,hlen,Dq,WAD hi]
   rw [TB (by simp;omega),TB (by simp;omega),TB (by simp;omega),VAD (fun b=>xb b x) hi],trivial,rfl⟩)
 rw [Xe,Gu,TB (by simp;omega),Bh]
 exact key gas 0 () (Nat.zero_le _) (gas_lt (by omega)) trivial
theorem MAH {l:List Int} (h:CV l):CV (PY l):=fun x hx=>by
 simp only [PY,List.mem_append,List.mem_replicate] at hx
 rcases hx with hx | hx
 ·exact h x hx
 ·omega
theorem OAF {k:ByteArray} (h:k.size≤64):bs (k++ofBytes (List.replicate (64 - k.size) 0))=PY (bs k):=by
 rw [OY,NM (fun x hx=>by have:=List.eq_of_mem_replicate hx;omega),PY,bs_len]
theorem PAF {K:ByteArray} (h:K.size=64) {s:ByteArray}:Qa (ofBytes (DZ 92 (bs K))++Qa (ofBytes (DZ 54 (bs K))++s))=ofBytes (NZ (DZ 92 (bs K)++NZ (DZ 54 (bs K)++bs s))):=by
 rw [Qa,OY,Bq,OY,NM (Gq _ _),NM (Gq _ _)]
theorem D9 {k s:ByteArray} (hk:k.size≤900000000) (hs:s.size≤900000000):Jc k s=some (Qb k s):=by
 have fin:∀ {K:ByteArray} {m:Int},K.size≤64→m=((64 - K.size:Nat):Int)→∀ (f:Option ByteArray),f=some (ofBytes (NZ (DZ 92 (PY (bs K))++NZ (DZ 54 (PY (bs K))++bs s))))→
   ((Za m).bind fun r1=>bif decide (K.size+r1.size≤9223372036854775807) then (Xe (K++r1) 92).bind fun r2=>(Xe (K++r1) 54).bind fun r3=>bif decide (r3.size+s.size≤9223372036854775807) then (Ve (r3++s)).bind fun r4=>bif decide (r2.size+r4.size≤9223372036854775807) then (Ve (r2++r4)).bind fun r5=>some r5 else none else none else none)=f:=by
  intro K m hK hm f hf
  have h64:(K++ofBytes (List.replicate (64 - K.size) 0)).size=64:=by rw [ByteArray.size_append,ofBytes_size,List.length_replicate];omega
  subst hm
  have x1:=Fq 92 (PY (bs K))
  have x2:=Fq 54 (PY (bs K))
  have x3:(PY (bs K)).length=64:=by rw [PY,List.length_append,List.length_replicate,bs_len];omega
  have hb:=OAF hK
  have hf2:=PAF h64 (s:=s)
  rw [hb] at hf2
  rw [Hy (by omega),Option.bind_some,TB (by rw [ofBytes_size,List.length_replicate,decide_eq_true_eq];omega),C9 (by omega),Option.bind_some,C9 (by omega),Option.bind_some,hb]
  rw [TB (by rw [ofBytes_size,decide_eq_true_eq];omega),Ry (by rw [ByteArray.size_append,ofBytes_size];omega),Option.bind_some,TB (by rw [ofBytes_size,Fg,decide_eq_true_eq];omega)]
  rw [Ry (by rw [ByteArray.size_append,ofBytes_size,Fg];omega),Option.bind_some,hf,hf2]
 rw [Jc,Hu]
 by_cases h:64<k.size
 ·rw [TB (by simp;omega),Ry (by omega),Option.bind_some]
  apply fin (by rw [Fg];omega) (by rw [Fg];decide)
  rw [Qb,Va,Ua,if_pos (by rw [bs_len];omega),Bq]
 ·rw [FN (by simp;omega)]
  apply fin (by omega) (by rw [w64_id (by omega) (by omega)];omega)
  rw [Qb,Va,Ua,if_neg (by rw [bs_len];omega)]
theorem F9 {k:ByteArray} {num n:Int} (hk:k.size≤900000000):Ye k num n=some (Ud k num n):=by
 rw [Ye,Ju,XAD,Option.bind_some,Ud,maskOk]
 cases h:QY num 0 1000000000
 ·rfl
 ·rw [OZ] at h
  rw [cond_true,FN (by rfl),Gm,Option.bind_some]
  cases h2:QY n 0 8000
  ·rfl
  ·rw [OZ] at h2
   rw [FN (by rfl),Bool.and_self,cond_true]
   have hv:=Yc (n:=num) (by omega)
   have hvb:=Vd h.1
   have key:=loopN (A:=Unit) (n:=(n.toNat+31) / 32) (Lp:=Bj) (st:=fun i _=>.c0 k n (ofBytes (IK num)) (ofBytes (Ub (bs k) (IK num) i)) (i:Int)) (Inv:=fun _ _=>True) (out:=fun _ _=>some (ofBytes (RY (bs k) (IK num) n.toNat),true))
    (fun m _ _=>by
     rw [Bj]
     simp only [Yn]
     rw [FN (by rw [ofBytes_size,Bd,decide_eq_false_iff_not];omega),TB (by rw [ofBytes_size,Bd];simp;omega)]
     refine congrArg (fun x=>some (x,true)) (KZ ?_)
     rw [MZ,NM (Hq _ _ _),NM (Am _ _ _),RY,List.drop_zero])
    (fun m i _ hi _=>.inr ⟨(),by
     have e:w64 ((i:Int)+1)=((i+1:Nat):Int):=by rw [w64_id (by omega) (by omega)];rfl
     have h9:(⟨#[109]⟩:ByteArray).size=1:=rfl
     rw [Bj]
     simp only [Yn,e]
     rw [TB (by rw [ofBytes_size,Bd,decide_eq_true_eq];omega),TB (by rw [ofBytes_size,h9,decide_eq_true_eq];omega),YAD (by omega) (by omega),Option.bind_some,TB (by rw [ByteArray.size_append,ofBytes_size,ofBytes_size,h9,decide_eq_true_eq,List.length_singleton];omega)]
     rw [D9 hk (by rw [ByteArray.size_append,ByteArray.size_append,ofBytes_size,ofBytes_size,h9,List.length_singleton];omega),Option.bind_some,I8 k h.1 h.2 i (by omega),TB (by rw [ofBytes_size,ofBytes_size,Bd,Fh,decide_eq_true_eq];omega)]
     rw [show ofBytes (Ub (bs k) (IK num) i)++ofBytes (Va (bs k) (109::(IK num++[(i:Int)])))=ofBytes (Ub (bs k) (IK num) (i+1)) from KZ (by
      rw [OY,NM (Hq _ _ _),NM (Hq _ _ _),NM (Zl _ _),Ub])],trivial,rfl⟩)
   exact key gas 0 () (Nat.zero_le _) (gas_lt (by omega)) trivial
theorem G9 {a b:ByteArray} (ha:a.size≤140737488351232) (h:a.size≤b.size):Ze a b=some (ofBytes (KY (bs a) (bs b))):=by
 have hl:=bs_len a
 have hl2:=bs_len b
 have key:=loopN (A:=Unit) (n:=(bs a).length) (Lp:=Ej) (st:=fun i _=>.c0 b ((bs a).length:Int) (i:Int) (List.zipWith xb ((bs a).take i) ((bs b).take i)++(bs a).drop i)) (Inv:=fun _ _=>True) (out:=fun _ _=>some (ofBytes (KY (bs a) (bs b))))
  (fun m _ _=>by
   rw [Ej]
   simp only [Bo]
   rw [FN (by simp),List.take_length,List.drop_length,List.append_nil,KY,Oy])
  (fun m i _ hi _=>.inr ⟨(),by
   have e:w64 ((i:Int)+1)=((i+1:Nat):Int):=by rw [w64_id (by omega) (by omega)];rfl
   have hlen:(List.zipWith xb ((bs a).take i) ((bs b).take i)++(bs a).drop i).length=(bs a).length:=by simp;omega
   rw [Ej]
   simp only [Bo,e,Int.toNat_natCast,hlen,Dq,L8 hi (show i<(bs b).length by omega)]
   rw [TB (by simp;omega),TB (by simp;omega),TB (by simp;omega),TB (by simp;omega),Uc (by omega),J8 hi (by omega)],trivial,rfl⟩)
 rw [Ze,Ku,TB (by simp;omega),Bh]
 exact key gas 0 () (Nat.zero_le _) (gas_lt (by omega)) trivial
theorem H9 {k s:ByteArray} {num:Int} (hk:k.size≤900000000) (hn:0≤num∧num≤1000000000) (hs:s.size≤800000000):Af k num s=some (ofBytes (IZ (bs k) num (bs s))):=by
 have hv:=Yc (n:=num) (by omega)
 have h9:(⟨#[116]⟩:ByteArray).size=1:=rfl
 have e:bs (⟨#[116]⟩:ByteArray)=[116]:=rfl
 have h16:(16:Int).toNat=16:=rfl
 rw [Af,Lu,Gy (by omega),Option.bind_some,TB (by rw [ofBytes_size,h9,decide_eq_true_eq];omega),TB (by rw [ByteArray.size_append,ofBytes_size,h9,decide_eq_true_eq];omega)]
 rw [D9 hk (by rw [ByteArray.size_append,ByteArray.size_append,ofBytes_size,h9];omega),Option.bind_some,TB (by rw [H8];decide)]
 refine congrArg some (KZ ?_)
 rw [MZ,G8,h16,NM (Xa _ _ _),OY,OY,e,NM (Vd hn.1),IZ,List.drop_zero,List.append_assoc]
 rfl
theorem QAF {k s:ByteArray} {num:Int} (hk:k.size≤900000000) (hs:s.size≤800000000):Fj k num s=some (EZ k num s):=by
 rw [Fj,Ou,F9 hk,Option.bind_some,Ud,EZ]
 cases h:maskOk num s.size
 ·rfl
 ·have h':=Cm.1 h
  have hm:=PZ (bs k) (IK num) ((s.size:Int).toNat)
  have hl:=bs_len s
  rw [cond_true,cond_true,FN (by rfl),G9 (by omega) (by rw [ofBytes_size,hm];omega),Option.bind_some,NM (Am _ _ _)]
  have hx:(KY (bs s) (RY (bs k) (IK num) (s.size:Int).toNat)).length=s.size:=by rw [Xd (by omega),hl]
  rw [H9 hk h'.1 (by rw [ofBytes_size,hx];omega),Option.bind_some,NM (Vb _ _),TB (by rw [ofBytes_size,ofBytes_size,hx,Ih,decide_eq_true_eq];omega)]
  refine congrArg (fun x=>some (x,true)) (KZ ?_)
  rw [OY,NM (Vb _ _),NM (Xa _ _ _),NM (fun x hx=>by
   rcases List.mem_append.1 hx with hx | hx
   ·exact Vb _ _ x hx
   ·exact Xa _ _ _ x hx),NY,hl]
  rfl
theorem I9 {k s:ByteArray} (hk:k.size≤900000000):Gj k s=some (WY k s):=by
 rw [Gj,Ru,WY]
 by_cases h:400<s.size
 ·rw [TB (by simp;omega),TB (by simp;omega)]
 ·have h2:=Em (l:=bs s) (by rw [bs_len];omega)
  have hl:=bs_len s
  rw [FN (by simp;omega),FN (by simp;omega),N8 (by omega),Option.bind_some,QAF hk (by rw [ofBytes_size];omega),Option.bind_some]
theorem Jq (a b:ByteArray):(a.toList == b.toList)=(bs a == bs b):=by
 rw [toList_inj,Bool.eq_iff_iff,decide_eq_true_eq,beq_iff_eq]
 exact ⟨fun h=>by rw [h],KZ⟩
theorem J9 (t:ByteArray) {n:Nat} (h:t.size=n+16):bs (t.extract 0 n)=(bs t).take (t.size - 16)∧bs (t.extract n t.size)=(bs t).drop (t.size - 16):=by
 rw [MZ,MZ,List.take_of_length_le (by rw [bs_len];omega:(bs t).length≤t.size),h,Nat.add_sub_cancel]
 exact ⟨rfl,rfl⟩
theorem RAF {k t:ByteArray} {num:Int} (hk:k.size≤900000000) (ht:t.size≤800000000):Ij k num t=some (SN k num t):=by
 rw [Ij,Vu,SN]
 have hw:w64 ((t.size:Int) - 16)=(t.size:Int) - 16:=w64_id (by omega) (by omega)
 rw [hw]
 by_cases h:t.size<16
 ·rw [TB (by simp;omega),TB (by simp;omega)]
 ·obtain ⟨n,hn⟩:∃ n,t.size=n+16:=⟨t.size - 16,by omega⟩
  obtain ⟨e1,e2⟩:=J9 t hn
  have hz:(t.size:Int) - 16=(n:Int):=by omega
  have hb:=bs_len t
  rw [FN (by simp;omega),F9 hk,Option.bind_some,Ud,hz,show decide ((t.size:Int)<16)=false by simp;omega,Bool.false_or]
  cases hm:maskOk num n
  ·rfl
  ·have h':=Cm.1 hm
   have hml:=PZ (bs k) (IK num) n
   have hes:(t.extract 0 n).size=n:=by simp;omega
   rw [Bool.not_true,cond_false,cond_true,FN (by rfl),Int.toNat_natCast,TB (by simp;omega),H9 hk h'.1 (by omega),Option.bind_some,TB (by simp;omega),Jq,NM (Xa _ _ _),e1,e2]
   cases hc:(IZ (bs k) num ((bs t).take (t.size - 16)) == (bs t).drop (t.size - 16))
   ·rfl
   ·rw [Bool.not_true,cond_false,TB (by simp;omega),G9 (by omega) (by rw [ofBytes_size,hml];omega),Option.bind_some,NM (Am _ _ _),e1,cond_true,show t.size - 16=n by omega]
def pw (k:Nat):Int:=128 ^ k
theorem Jd:pw 0=1:=rfl
theorem Kq (k:Nat):pw (k+1)=pw k*128:=Int.pow_succ ..
theorem Gg {k:Nat} (h:k<5):pw k=1∨pw k=128∨pw k=16384∨pw k=2097152∨pw k=268435456:=by
 rcases (by omega:k=0∨k=1∨k=2∨k=3∨k=4) with rfl | rfl | rfl | rfl | rfl
 ·exact .inl rfl
 ·exact .inr (.inl rfl)
 ·exact .inr (.inr (.inl rfl))
 ·exact .inr (.inr (.inr (.inl rfl)))
 ·exact .inr (.inr (.inr (.inr rfl)))
def Zb:Int×Int×Bool:=(0,0,false)
def RV (text:ByteArray) (a:Nat) (r:Int×Int×Bool):Prop:=r=Zb∨∃ v:Int,∃ q:Nat,r=(v,((q:Nat):Int),true)∧0≤v∧v≤1000000000∧a<q∧q≤text.size
def At (text:ByteArray) (p:Nat) (l:List Int):Prop:=∃ rest,(bs text).drop p=l++rest
theorem At.left {text:ByteArray} {p:Nat} {l m:List Int} (h:At text p (l++m)):At text p l:=by
 obtain ⟨r,hr⟩:=h;exact ⟨m++r,by rw [hr,List.append_assoc]⟩
theorem At.right {text:ByteArray} {p:Nat} {l m:List Int} (h:At text p (l++m)):At text (p+l.length) m:=by
 obtain ⟨r,hr⟩:=h;exact ⟨r,by rw [←List.drop_drop,hr,List.append_assoc,List.drop_left]⟩
theorem At.size {text:ByteArray} {p:Nat} {l:List Int} (h:At text p l):l=[]∨p+l.length≤text.size:=by
 obtain ⟨r,hr⟩:=h
 have:=congrArg List.length hr
 rw [List.length_drop,bs_len,List.length_append] at this
 cases l with
 | nil=>exact .inl rfl
 | cons x xs=>right;simp only [List.length_cons] at this ⊢;omega
theorem At.head {text:ByteArray} {p:Nat} {x:Int} {l:List Int} (h:At text p (x::l)):p<text.size∧bt text (p:Int)=x:=by
 have hs:p+(x::l).length≤text.size:=by rcases h.size with h | h;exact absurd h (by simp);exact h
 simp only [List.length_cons] at hs
 have hp:p<text.size:=by omega
 refine ⟨hp,?_⟩
 rw [Zx hp]
 obtain ⟨r,hr⟩:=h
 have hl:p<(bs text).length:=by rw [bs_len];exact hp
 rw [List.drop_eq_getElem_cons hl] at hr
 injection hr
theorem At.tail {text:ByteArray} {p:Nat} {x:Int} {l:List Int} (h:At text p (x::l)):At text (p+1) l:=At.right (l:=[x]) h
theorem At.extract {text:ByteArray} {p:Nat} {l:List Int} (h:At text p l) (hl:∀ n,n ∈ l→0≤n∧n≤255):text.extract p (p+l.length)=ofBytes l:=by
 apply KZ
 rw [MZ,NM hl]
 obtain ⟨r,hr⟩:=h
 rw [List.drop_take,hr]
 simp
theorem L9:∀ (n:Int),0≤n→∀ x,x ∈ IK n→0≤x∧x≤255:=by
 intro n
 induction n using IK.induct with
 | case1 n hn ih=>
  intro h x hx
  rw [IK,if_pos hn] at hx
  rcases List.mem_cons.1 hx with rfl | hx
  ·omega
  ·exact ih (by omega) x hx
 | case2 n hn=>
  intro h x hx
  rw [IK,if_neg hn,w8_id h (by omega)] at hx
  rw [List.mem_singleton] at hx
  omega
theorem Uy {n:Int} (h:0≤n) (h2:n≤127):IK n=[n]:=by
 rw [IK,if_neg (by omega),w8_id h (by omega)]
theorem N9 {n:Int} (h:n≤1000000000):(IK n).length≤5:=by
 have:=H7 5 n (by (have:(128:Int) ^ 5=34359738368:=by decide);omega)
 omega
theorem Nq {text:ByteArray} {a k m:Nat} {n s:Int} (hs:text.size≤140737488351232) (ha:a≤text.size) (hi:text.size≤a+k∨5≤k):Nb (m+1) (.c0 text a n s ((a+k:Nat):Int))=some Zb:=by
 simp only [Nb,Qp]
 by_cases h:a+k<text.size
 ·rw [show decide (((a+k:Nat):Int)<(text.size:Int))=true from decide_eq_true (by omega),w64_id (n:=(a:Int)+5) (by omega) (by omega),show decide (((a+k:Nat):Int)<(a:Int)+5)=false from decide_eq_false (by omega)]
  rfl
 ·rw [show decide (((a+k:Nat):Int)<(text.size:Int))=false from decide_eq_false (by omega)]
  rfl
theorem Yd {k:Nat} {n b:Int} (hk:k<5) (h0:0≤n) (h1:n<pw k) (hb:0≤b∧b≤255) :
  (b<128→b.tmod 128=b∧w64 (b*pw k)=b*pw k∧w64 (n+b*pw k)=n+b*pw k∧0≤n+b*pw k∧n+b*pw k<pw (k+1))∧
  (¬ b<128→b.tmod 128=b - 128∧w64 ((b - 128)*pw k)=(b - 128)*pw k∧w64 (n+(b - 128)*pw k)=n+(b - 128)*pw k∧0≤n+(b - 128)*pw k∧n+(b - 128)*pw k<pw (k+1))∧w64 (pw k*128)=pw (k+1):=by
 rw [Kq]
 have e:b.tmod 128=b % 128:=Int.tmod_eq_emod_of_nonneg hb.1
 refine ⟨fun h=>?_,fun h=>?_,?_⟩
 ·have hc:0≤b*pw k∧b*pw k≤34091302912∧b*pw k≤127*pw k:=by rcases Gg hk with e | e | e | e | e <;> rw [e] <;> omega
  have hp:pw k≤268435456:=by rcases Gg hk with e | e | e | e | e <;> rw [e] <;> omega
  exact ⟨by rw [e];omega,w64_id (by omega) (by omega),w64_id (by omega) (by omega),by omega,by omega⟩
 ·have hc:0≤(b - 128)*pw k∧(b - 128)*pw k≤34091302912∧(b - 128)*pw k≤127*pw k:=by rcases Gg hk with e | e | e | e | e <;> rw [e] <;> omega
  have hp:pw k≤268435456:=by rcases Gg hk with e | e | e | e | e <;> rw [e] <;> omega
  exact ⟨by rw [e];omega,w64_id (by omega) (by omega),w64_id (by omega) (by omega),by omega,by omega⟩
 ·rcases Gg hk with e | e | e | e | e <;> rw [e,w64_id (by omega) (by omega)]
theorem Oq {text:ByteArray} {a k m:Nat} {n b:Int} (hs:text.size≤140737488351232) (hk:k<5) (hi:a+k<text.size) (h0:0≤n) (h1:n<pw k) (hb:bt text ((a+k:Nat):Int)=b) :
  Nb (m+1) (.c0 text a n (pw k) ((a+k:Nat):Int))=if b<128 then (if n+b*pw k > 1000000000 then some Zb else if ofBytes (IK (n+b*pw k))=text.extract a (a+k+1) then some (n+b*pw k,((a+k+1:Nat):Int),true) else some Zb) else Nb m (.c0 text a (n+(b - 128)*pw k) (pw (k+1)) ((a+k+1:Nat):Int)):=by
 have hb':=Zg text ((a+k:Nat):Int)
 rw [hb] at hb'
 obtain ⟨n1,n2,n3⟩:=Yd hk h0 h1 hb'
 have hw:w64 (((a+k:Nat):Int)+1)=((a+k+1:Nat):Int):=by rw [w64_id (by omega) (by omega)];omega
 simp only [Nb,Qp,hb,w64_id (n:=b) (by omega) (by omega),n3,hw,Int.toNat_natCast]
 rw [show decide (((a+k:Nat):Int)<(text.size:Int))=true from decide_eq_true (by omega),w64_id (n:=(a:Int)+5) (by omega) (by omega),show decide (((a+k:Nat):Int)<(a:Int)+5)=true from decide_eq_true (by omega),
  show decide ((0:Int)≤((a+k:Nat):Int))=true from decide_eq_true (by omega)]
 simp only [Bool.and_self,cond_true]
 by_cases h:b<128
 ·obtain ⟨e1,e2,e3,e4,_⟩:=n1 h
  rw [if_pos h,e1,e2,e3,show decide (b<128)=true from decide_eq_true h]
  by_cases h2:n+b*pw k > 1000000000
  ·rw [if_pos h2,show decide (n+b*pw k > 1000000000)=true from decide_eq_true h2];rfl
  ·rw [if_neg h2,show decide (n+b*pw k > 1000000000)=false from decide_eq_false h2,Xp (by omega)]
   simp only [cond_true,cond_false,Option.bind_some]
   rw [show decide ((0:Int)≤(a:Int))=true from decide_eq_true (by omega),show decide ((a:Int)≤((a+k+1:Nat):Int))=true from decide_eq_true (by omega),show decide (((a+k+1:Nat):Int)≤(text.size:Int))=true from decide_eq_true (by omega),toList_inj]
   by_cases h3:ofBytes (IK (n+b*pw k))=text.extract a (a+k+1)
   ·rw [if_pos h3,decide_eq_true h3];rfl
   ·rw [if_neg h3,decide_eq_false h3];rfl
 ·obtain ⟨e1,e2,e3,_,_⟩:=n2 h
  rw [if_neg h,e1,e2,e3,show decide (b<128)=false from decide_eq_false h]
  rfl
theorem SAF {text:ByteArray} {a:Nat} (hs:text.size≤140737488351232) (ha:a≤text.size):∀ j k m n,k+j=5→j<m→0≤n→n<pw k→∃ r,Nb m (.c0 text a n (pw k) ((a+k:Nat):Int))=some r∧RV text a r:=by
 intro j
 induction j with
 | zero=>
  intro k m n hk hm _ _
  obtain ⟨m,rfl⟩:∃ q,m=q+1:=⟨m - 1,by omega⟩
  exact ⟨_,Nq hs ha (.inr (by omega)),.inl rfl⟩
 | succ j ih=>
  intro k m n hk hm h0 h1
  obtain ⟨m,rfl⟩:∃ q,m=q+1:=⟨m - 1,by omega⟩
  by_cases hi:a+k<text.size
  ·have hb:=Zg text ((a+k:Nat):Int)
   generalize hbe:bt text ((a+k:Nat):Int)=b at hb
   obtain ⟨n1,n2,_⟩:=Yd (b:=b) (by omega:k<5) h0 h1 hb
   rw [Oq hs (by omega) hi h0 h1 hbe]
   split
   ·rename_i h
    split
    ·exact ⟨_,rfl,.inl rfl⟩
    ·split
     ·exact ⟨_,rfl,.inr ⟨_,_,rfl,(n1 h).2.2.2.1,by omega,by omega,by omega⟩⟩
     ·exact ⟨_,rfl,.inl rfl⟩
   ·rename_i h
    obtain ⟨_,_,_,e4,e5⟩:=n2 h
    exact ih (k+1) m _ (by omega) (by omega) e4 e5
  ·exact ⟨_,Nq hs ha (.inl (by omega)),.inl rfl⟩
theorem TAF {text:ByteArray} {a:Nat} {V:Int} (hs:text.size≤140737488351232) (hV0:0≤V) (hV:V≤1000000000) (hA:At text a (IK V)):∀ U k m n,IK U=(IK V).drop k→0≤U→n+pw k*U=V→0≤n→n<pw k→5<m+k→Nb m (.c0 text a n (pw k) ((a+k:Nat):Int))=some (V,((a+(IK V).length:Nat):Int),true):=by
 have h5:=N9 hV
 intro U
 induction U using IK.induct with
 | case1 U hU ih=>
  intro k m n e1 u0 e2 h0 h1 hm
  have hl:=congrArg List.length e1
  rw [List.length_drop] at hl
  have hp:=Ob U
  have hk:k<5:=by omega
  obtain ⟨m,rfl⟩:∃ q,m=q+1:=⟨m - 1,by omega⟩
  have hA':At text (a+k) (IK U):=by
   have:At text a ((IK V).take k++(IK V).drop k):=by rw [List.take_append_drop];exact hA
   have:=this.right
   rw [List.length_take,Nat.min_eq_left (by omega),←e1] at this
   exact this
  have e3:=e1
  rw [IK,if_pos hU] at hA' e3
  obtain ⟨hi,hb⟩:=hA'.head
  obtain ⟨n1,n2,_⟩:=Yd (b:=128+U % 128) hk h0 h1 (by omega)
  obtain ⟨_,_,_,e4,e5⟩:=n2 (by omega)
  rw [Oq hs hk hi h0 h1 hb,if_neg (by omega)]
  refine ih (k+1) m _ ?_ (by omega) ?_ e4 e5 (by omega)
  ·rw [←List.drop_drop,←e3];rfl
  ·rw [Kq]
   rcases Gg hk with e | e | e | e | e <;> rw [e] at e2 ⊢ <;> omega
 | case2 U hU=>
  intro k m n e1 u0 e2 h0 h1 hm
  have hl:=congrArg List.length e1
  rw [List.length_drop] at hl
  have hp:=Ob U
  have hk:k<5:=by omega
  obtain ⟨m,rfl⟩:∃ q,m=q+1:=⟨m - 1,by omega⟩
  have hA':At text (a+k) (IK U):=by
   have:At text a ((IK V).take k++(IK V).drop k):=by rw [List.take_append_drop];exact hA
   have:=this.right
   rw [List.length_take,Nat.min_eq_left (by omega),←e1] at this
   exact this
  rw [Uy u0 (by omega)] at hA' hl
  simp only [List.length_singleton] at hl
  obtain ⟨hi,hb⟩:=hA'.head
  have e3:n+U*pw k=V:=by rw [Int.mul_comm];exact e2
  have e4:a+k+1=a+(IK V).length:=by omega
  rw [Oq hs hk hi h0 h1 hb,if_pos (by omega),e3,if_neg (by omega),e4,if_pos (hA.extract (L9 V hV0)).symm]
theorem NAH {text:ByteArray} {a:Nat} (hs:text.size≤140737488351232) (ha:a≤text.size):∃ r,Ja text a=some r∧RV text a r:=by
 simp only [Ja,Rl,Gh,Option.bind_some]
 rw [show QY (a:Int) 0 (text.size:Int)=true from OZ.2 ⟨by omega,by omega⟩]
 exact SAF hs ha 5 0 gas 0 rfl (gas_lt (by omega)) (by omega) (by rw [Jd];omega)
theorem O9 {text:ByteArray} {a:Nat} {V:Int} (hs:text.size≤140737488351232) (hV0:0≤V) (hV:V≤1000000000) (hA:At text a (IK V)):Ja text a=some (V,((a+(IK V).length:Nat):Int),true):=by
 have ha:a+(IK V).length≤text.size:=by
  rcases hA.size with h | h
  ·have:=Ob V;rw [h] at this;simp at this
  ·exact h
 simp only [Ja,Rl,Gh,Option.bind_some]
 rw [show QY (a:Int) 0 (text.size:Int)=true from OZ.2 ⟨by omega,by omega⟩]
 exact TAF hs hV0 hV hA V 0 gas 0 (by simp) hV0 (by rw [Jd];omega) (by omega) (by rw [Jd];omega) (by have:=gas_lt (n:=5) (by omega);omega)
theorem UAF {k:Nat} (h:k<5):(2:Int) ^ (Min.min (w64 (7*(k:Int))).toNat (IntKind.bits IntKind.i64))=pw k∧w64 (7*(k:Int))=7*(k:Int):=by
 refine ⟨?_,w64_id (by omega) (by omega)⟩
 rcases (by omega:k=0∨k=1∨k=2∨k=3∨k=4) with rfl | rfl | rfl | rfl | rfl <;> kernel_rfl
theorem Pq {text:ByteArray} {a k m:Nat} {n:Int} (hs:text.size≤140737488351232) (ha:a≤text.size) (hk:k≤5) (hi:text.size≤a+k∨5≤k):Cb (m+1) (.c0 text a n k)=some Zb:=by
 simp only [Cb,Ho]
 by_cases h:k<5
 ·rw [show decide ((k:Int)<5)=true from decide_eq_true (by omega),w64_id (n:=(a:Int)+k) (by omega) (by omega),show decide ((a:Int)+k<(text.size:Int))=false from decide_eq_false (by omega)]
  rfl
 ·rw [show decide ((k:Int)<5)=false from decide_eq_false (by omega)]
  rfl
theorem Qq {text:ByteArray} {a k m:Nat} {n b:Int} (hs:text.size≤140737488351232) (hk:k<5) (hi:a+k<text.size) (h0:0≤n) (h1:n<pw k) (hb:bt text ((a+k:Nat):Int)=b) :
  Cb (m+1) (.c0 text a n k)=if b<128 then (if b=0∧0<k∨n+b*pw k > 1000000000 then some Zb else some (n+b*pw k,((a+k+1:Nat):Int),true)) else Cb m (.c0 text a (n+(b - 128)*pw k) ((k+1:Nat):Int)):=by
 have hb':=Zg text ((a+k:Nat):Int)
 rw [hb] at hb'
 obtain ⟨n1,n2,n3⟩:=Yd hk h0 h1 hb'
 obtain ⟨p1,p2⟩:=UAF hk
 rw [p2] at p1
 have ha:w64 ((a:Int)+(k:Int))=((a+k:Nat):Int):=by rw [w64_id (by omega) (by omega)];omega
 have hw:w64 (((a+k:Nat):Int)+1)=((a+k+1:Nat):Int):=by rw [w64_id (by omega) (by omega)];omega
 have hw2:w64 ((k:Int)+1)=((k+1:Nat):Int):=by rw [w64_id (by omega) (by omega)];omega
 simp only [Cb,Ho,ha,hb,w64_id (n:=b) (by omega) (by omega),p2,p1,hw,hw2]
 rw [show decide (((a+k:Nat):Int)<(text.size:Int))=true from decide_eq_true (by omega),show decide ((k:Int)<5)=true from decide_eq_true (by omega),show decide ((0:Int)≤7*(k:Int))=true from decide_eq_true (by omega),
  show decide ((0:Int)≤((a+k:Nat):Int))=true from decide_eq_true (by omega)]
 simp only [Bool.and_self,cond_true]
 by_cases h:b<128
 ·obtain ⟨e1,e2,e3,e4,_⟩:=n1 h
  rw [if_pos h,e1,e2,e3,show decide (b<128)=true from decide_eq_true h]
  simp only [cond_true]
  by_cases hz:b=0
  ·rw [show (b == 0)=true from beq_iff_eq.2 hz]
   by_cases hk0:0<k
   ·rw [if_pos (.inl ⟨hz,hk0⟩),show decide ((k:Int) > 0)=true from decide_eq_true (by omega)];rfl
   ·rw [show decide ((k:Int) > 0)=false from decide_eq_false (by omega)]
    by_cases h2:n+b*pw k > 1000000000
    ·rw [if_pos (.inr h2),show decide (n+b*pw k > 1000000000)=true from decide_eq_true h2];rfl
    ·rw [if_neg (by omega),show decide (n+b*pw k > 1000000000)=false from decide_eq_false h2];rfl
  ·rw [show (b == 0)=false from beq_eq_false_iff_ne.2 hz]
   by_cases h2:n+b*pw k > 1000000000
   ·rw [if_pos (.inr h2),show decide (n+b*pw k > 1000000000)=true from decide_eq_true h2];rfl
   ·rw [if_neg (by omega),show decide (n+b*pw k > 1000000000)=false from decide_eq_false h2];rfl
 ·obtain ⟨e1,e2,e3,_,_⟩:=n2 h
  rw [if_neg h,e1,e2,e3,show decide (b<128)=false from decide_eq_false h]
  rfl
theorem VAF {text:ByteArray} {a:Nat} (hs:text.size≤140737488351232) (ha:a≤text.size):∀ j k m n,k+j=5→j<m→0≤n→n<pw k→∃ r,Cb m (.c0 text a n k)=some r∧RV text a r:=by
 intro j
 induction j with
 | zero=>
  intro k m n hk hm _ _
  obtain ⟨m,rfl⟩:∃ q,m=q+1:=⟨m - 1,by omega⟩
  exact ⟨_,Pq hs ha (by omega) (.inr (by omega)),.inl rfl⟩
 | succ j ih=>
  intro k m n hk hm h0 h1
  obtain ⟨m,rfl⟩:∃ q,m=q+1:=⟨m - 1,by omega⟩
  by_cases hi:a+k<text.size
  ·have hb:=Zg text ((a+k:Nat):Int)
   generalize hbe:bt text ((a+k:Nat):Int)=b at hb
   obtain ⟨n1,n2,_⟩:=Yd (b:=b) (by omega:k<5) h0 h1 hb
   rw [Qq hs (by omega) hi h0 h1 hbe]
   split
   ·rename_i h
    split
    ·exact ⟨_,rfl,.inl rfl⟩
    ·exact ⟨_,rfl,.inr ⟨_,_,rfl,(n1 h).2.2.2.1,by omega,by omega,by omega⟩⟩
   ·rename_i h
    obtain ⟨_,_,_,e4,e5⟩:=n2 h
    exact ih (k+1) m _ (by omega) (by omega) e4 e5
  ·exact ⟨_,Pq hs ha (by omega) (.inl (by omega)),.inl rfl⟩
theorem WAF {text:ByteArray} {a:Nat} {V:Int} (hs:text.size≤140737488351232) (hV:V≤1000000000) (hA:At text a (IK V)):∀ U k m n,IK U=(IK V).drop k→0≤U→(0<k→0<U)→n+pw k*U=V→0≤n→n<pw k→5<m+k→Cb m (.c0 text a n k)=some (V,((a+(IK V).length:Nat):Int),true):=by
 have h5:=N9 hV
 intro U
 induction U using IK.induct with
 | case1 U hU ih=>
  intro k m n e1 u0 uz e2 h0 h1 hm
  have hl:=congrArg List.length e1
  rw [List.length_drop] at hl
  have hp:=Ob U
  have hk:k<5:=by omega
  obtain ⟨m,rfl⟩:∃ q,m=q+1:=⟨m - 1,by omega⟩
  have hA':At text (a+k) (IK U):=by
   have:At text a ((IK V).take k++(IK V).drop k):=by rw [List.take_append_drop];exact hA
   have:=this.right
   rw [List.length_take,Nat.min_eq_left (by omega),←e1] at this
   exact this
  have e3:=e1
  rw [IK,if_pos hU] at hA' e3
  obtain ⟨hi,hb⟩:=hA'.head
  obtain ⟨n1,n2,_⟩:=Yd (b:=128+U % 128) hk h0 h1 (by omega)
  obtain ⟨_,_,_,e4,e5⟩:=n2 (by omega)
  rw [Qq hs hk hi h0 h1 hb,if_neg (by omega)]
  refine ih (k+1) m _ ?_ (by omega) (fun _=>by omega) ?_ e4 e5 (by omega)
  ·rw [←List.drop_drop,←e3];rfl
  ·rw [Kq]
   rcases Gg hk with e | e | e | e | e <;> rw [e] at e2 ⊢ <;> omega
 | case2 U hU=>
  intro k m n e1 u0 uz e2 h0 h1 hm
  have hl:=congrArg List.length e1
  rw [List.length_drop] at hl
  have hp:=Ob U
  have hk:k<5:=by omega
  obtain ⟨m,rfl⟩:∃ q,m=q+1:=⟨m - 1,by omega⟩
  have hA':At text (a+k) (IK U):=by
   have:At text a ((IK V).take k++(IK V).drop k):=by rw [List.take_append_drop];exact hA
   have:=this.right
   rw [List.length_take,Nat.min_eq_left (by omega),←e1] at this
   exact this
  rw [Uy u0 (by omega)] at hA' hl
  simp only [List.length_singleton] at hl
  obtain ⟨hi,hb⟩:=hA'.head
  have e3:n+U*pw k=V:=by rw [Int.mul_comm];exact e2
  have e4:a+k+1=a+(IK V).length:=by omega
  rw [Qq hs hk hi h0 h1 hb,if_pos (by omega),e3,if_neg (by omega),e4]
theorem XAF {text:ByteArray} {a:Nat} (hs:text.size≤140737488351232) (ha:a≤text.size):∃ r,Eb text a=some r∧RV text a r:=by
 simp only [Eb,Lj,Gm,Option.bind_some]
 rw [show QY (a:Int) 0 (text.size:Int)=true from OZ.2 ⟨by omega,by omega⟩]
 exact VAF hs ha 5 0 gas 0 rfl (gas_lt (by omega)) (by omega) (by rw [Jd];omega)
theorem P9 {text:ByteArray} {a:Nat} {V:Int} (hs:text.size≤140737488351232) (hV0:0≤V) (hV:V≤1000000000) (hA:At text a (IK V)):Eb text a=some (V,((a+(IK V).length:Nat):Int),true):=by
 have ha:a+(IK V).length≤text.size:=by
  rcases hA.size with h | h
  ·have:=Ob V;rw [h] at this;simp at this
  ·exact h
 simp only [Eb,Lj,Gm,Option.bind_some]
 rw [show QY (a:Int) 0 (text.size:Int)=true from OZ.2 ⟨by omega,by omega⟩]
 exact WAF hs hV hA V 0 gas 0 (by simp) hV0 (fun h=>absurd h (Nat.lt_irrefl 0)) (by rw [Jd];omega) (by omega) (by rw [Jd];omega) (by have:=gas_lt (n:=5) (by omega);omega)
theorem OAH {text:ByteArray} {a:Nat} (hs:text.size≤140737488351232) (ha:a≤text.size):∃ s q ok,Lc text a=some (s,q,ok)∧(ok=true→∃ p:Nat,q=(p:Int)∧p≤text.size):=by
 obtain ⟨r,hr,hR⟩:=XAF hs ha
 simp only [Lc,Nj,hr,Option.bind_some]
 rcases hR with rfl | ⟨v,q,rfl,h0,h1,h2,h3⟩
 ·exact ⟨_,_,_,rfl,fun h=>by cases h⟩
 ·rw [w64_id (n:=(text.size:Int) - (q:Int)) (by omega) (by omega),w64_id (n:=(q:Int)+v) (by omega) (by omega)]
  simp only [Bool.not_true,cond_false]
  cases decide (v > 20000)
  ·by_cases hv:v > (text.size:Int) - (q:Int)
   ·rw [decide_eq_true hv];exact ⟨_,_,_,rfl,fun h=>by cases h⟩
   ·rw [decide_eq_false hv,show decide ((0:Int)≤(q:Int))=true from decide_eq_true (by omega),show decide ((q:Int)≤q+v)=true from decide_eq_true (by omega),show decide ((q:Int)+v≤(text.size:Int))=true from decide_eq_true (by omega)]
    exact ⟨_,_,_,rfl,fun _=>⟨((q:Int)+v).toNat,by omega,by omega⟩⟩
  ·exact ⟨_,_,_,rfl,fun h=>by cases h⟩
theorem PAH {text:ByteArray} {p:Nat} {s:ByteArray} (hs:text.size≤140737488351232) (hz:s.size≤20000) (hA:At text p (IK (s.size:Int)++bs s)):Lc text p=some (s,((p+(IK (s.size:Int)).length+s.size:Nat):Int),true):=by
 have hp:p+(IK (s.size:Int)).length≤text.size:=by
  rcases hA.left.size with h | h
  ·have:=Ob (s.size:Int);rw [h] at this;simp at this
  ·exact h
 have hA2:=hA.right
 have hx:=hA2.extract (fun n hn=>Yx hn)
 rw [bs_len,Uf] at hx
 simp only [Lc,Nj,P9 hs (by omega) (by omega) hA.left,Option.bind_some]
 generalize p+(IK (s.size:Int)).length=q at *
 have hz:q+s.size≤text.size:=by
  rcases hA2.size with h | h
  ·have:=congrArg List.length h;rw [bs_len,List.length_nil] at this;omega
  ·rw [bs_len] at h;exact h
 have e2:w64 ((q:Int)+(s.size:Int))=((q+s.size:Nat):Int):=by rw [w64_id (by omega) (by omega)];omega
 rw [w64_id (n:=(text.size:Int) - (q:Int)) (by omega) (by omega),e2,Int.toNat_natCast,Int.toNat_natCast,hx,
  show decide ((s.size:Int) > 20000)=false from decide_eq_false (by omega),show decide ((s.size:Int) > (text.size:Int) - (q:Int))=false from decide_eq_false (by omega),show decide ((0:Int)≤(q:Int))=true from decide_eq_true (by omega),show decide ((q:Int)≤((q+s.size:Nat):Int))=true from decide_eq_true (by omega),show decide (((q+s.size:Nat):Int)≤(text.size:Int))=true from decide_eq_true (by omega)]
 rfl
def Rq (text:ByteArray) (a:Nat) (r:Int×Int×Bool):Prop:=r=Zb∨∃ v:Int,r=(v,((a+(IK v).length:Nat):Int),true)∧0≤v∧v≤1000000000∧At text a (IK v)
theorem YAF {text:ByteArray} {a:Nat} (hs:text.size≤140737488351232) (ha:a≤text.size):∀ j k m n,k+j=5→j<m→0≤n→n<pw k→∃ r,Nb m (.c0 text a n (pw k) ((a+k:Nat):Int))=some r∧Rq text a r:=by
 intro j
 induction j with
 | zero=>
  intro k m n hk hm _ _
  obtain ⟨m,rfl⟩:∃ q,m=q+1:=⟨m - 1,by omega⟩
  exact ⟨_,Nq hs ha (.inr (by omega)),.inl rfl⟩
 | succ j ih=>
  intro k m n hk hm h0 h1
  obtain ⟨m,rfl⟩:∃ q,m=q+1:=⟨m - 1,by omega⟩
  by_cases hi:a+k<text.size
  ·have hb:=Zg text ((a+k:Nat):Int)
   generalize hbe:bt text ((a+k:Nat):Int)=b at hb
   obtain ⟨n1,n2,_⟩:=Yd (b:=b) (by omega:k<5) h0 h1 hb
   rw [Oq hs (by omega) hi h0 h1 hbe]
   split
   ·rename_i h
    have hv0:=(n1 h).2.2.2.1
    split
    ·exact ⟨_,rfl,.inl rfl⟩
    ·split
     ·rename_i h2
      have h3:=congrArg bs h2
      rw [NM (L9 _ hv0),MZ] at h3
      have hl:=congrArg List.length h3
      rw [List.length_drop,List.length_take,bs_len,Nat.min_eq_left (by omega)] at hl
      refine ⟨_,rfl,.inr ⟨_,by rw [show a+k+1=a+(IK (n+b*pw k)).length by omega],hv0,by omega,(bs text).drop (a+k+1),?_⟩⟩
      rw [h3,List.drop_take,show a+k+1=a+(a+k+1 - a) by omega,←List.drop_drop,Nat.add_sub_cancel_left,List.take_append_drop]
     ·exact ⟨_,rfl,.inl rfl⟩
   ·rename_i h
    obtain ⟨_,_,_,e4,e5⟩:=n2 h
    exact ih (k+1) m _ (by omega) (by omega) e4 e5
  ·exact ⟨_,Nq hs ha (.inl (by omega)),.inl rfl⟩
theorem Q9 {text:ByteArray} {p:Nat} (hp:p<text.size) {l:List Int} (h:At text (p+1) l):At text p (bt text (p:Int)::l):=by
 obtain ⟨r,hr⟩:=h
 refine ⟨r,?_⟩
 rw [drop_at (by rw [bs_len];exact hp),hr,Zx hp]
 rfl
theorem ZAF {text:ByteArray} {a:Nat} (hs:text.size≤140737488351232) (ha:a≤text.size):∀ j k m n,k+j=5→j<m→0≤n→n<pw k→∃ r,Cb m (.c0 text a n k)=some r∧(r=Zb∨∃ U:Int,r=(n+pw k*U,((a+k+(IK U).length:Nat):Int),true)∧0≤U∧(0<k→0<U)∧n+pw k*U≤1000000000∧At text (a+k) (IK U)):=by
 intro j
 induction j with
 | zero=>
  intro k m n hk hm _ _
  obtain ⟨m,rfl⟩:∃ q,m=q+1:=⟨m - 1,by omega⟩
  exact ⟨_,Pq hs ha (by omega) (.inr (by omega)),.inl rfl⟩
 | succ j ih=>
  intro k m n hk hm h0 h1
  obtain ⟨m,rfl⟩:∃ q,m=q+1:=⟨m - 1,by omega⟩
  by_cases hi:a+k<text.size
  ·have hb:=Zg text ((a+k:Nat):Int)
   generalize hbe:bt text ((a+k:Nat):Int)=b at hb
   obtain ⟨n1,n2,_⟩:=Yd (b:=b) (by omega:k<5) h0 h1 hb
   rw [Qq hs (by omega) hi h0 h1 hbe]
   split
   ·rename_i h
    split
    ·exact ⟨_,rfl,.inl rfl⟩
    ·rename_i h2
     have e1:=Uy hb.1 (by omega:b≤127)
     refine ⟨_,rfl,.inr ⟨b,by rw [e1,Int.mul_comm b (pw k)];rfl,hb.1,fun hk0=>by omega,by rw [Int.mul_comm (pw k) b];omega,?_⟩⟩
     rw [e1,←hbe]
     exact Q9 hi ⟨_,rfl⟩
   ·rename_i h
    obtain ⟨_,_,_,e4,e5⟩:=n2 h
    obtain ⟨r,hr,hR⟩:=ih (k+1) m _ (by omega) (by omega) e4 e5
    refine ⟨r,hr,?_⟩
    rcases hR with hR | ⟨U,hR,hU,hU0,hUb,hA⟩
    ·exact .inl hR
    ·have hU1:=hU0 (by omega)
     have e6:IK (b - 128+128*U)=b::IK U:=by
      rw [IK,if_pos (by omega),show (b - 128+128*U) / 128=U by omega,show 128+(b - 128+128*U) % 128=b by omega]
     have e7:n+(b - 128)*pw k+pw (k+1)*U=n+pw k*(b - 128+128*U):=by
      rw [Kq,Int.mul_add,Int.mul_comm (b - 128) (pw k),←Int.mul_assoc];omega
     refine .inr ⟨b - 128+128*U,?_,by omega,fun _=>by omega,by rw [←e7];exact hUb,?_⟩
     ·rw [hR,e6,e7,List.length_cons,show a+(k+1)+(IK U).length=a+k+((IK U).length+1) by omega]
     ·rw [e6,←hbe]
      exact Q9 hi hA
  ·exact ⟨_,Pq hs ha (by omega) (.inl (by omega)),.inl rfl⟩
theorem Vy {text:ByteArray} {a:Nat} (hs:text.size≤140737488351232) (ha:a≤text.size):∃ r,Ja text a=some r∧Rq text a r:=by
 simp only [Ja,Rl,Gh,Option.bind_some]
 rw [show QY (a:Int) 0 (text.size:Int)=true from OZ.2 ⟨by omega,by omega⟩]
 exact YAF hs ha 5 0 gas 0 rfl (gas_lt (by omega)) (by omega) (by rw [Jd];omega)
theorem AAG {text:ByteArray} {a:Nat} (hs:text.size≤140737488351232) (ha:a≤text.size):∃ r,Eb text a=some r∧Rq text a r:=by
 simp only [Eb,Lj,Gm,Option.bind_some]
 rw [show QY (a:Int) 0 (text.size:Int)=true from OZ.2 ⟨by omega,by omega⟩]
 obtain ⟨r,hr,hR⟩:=ZAF hs ha 5 0 gas 0 rfl (gas_lt (by omega)) (by omega) (by rw [Jd];omega)
 refine ⟨r,hr,?_⟩
 rcases hR with hR | ⟨U,hR,hU,_,hUb,hA⟩
 ·exact .inl hR
 ·rw [Jd,Int.zero_add,Int.one_mul] at hR hUb
  exact .inr ⟨U,hR,hU,hUb,hA⟩
noncomputable def XY (text:ByteArray) (a:Nat):Int×Int×Bool:=(Ja text a).getD Zb
theorem BAG {text:ByteArray} {a:Nat} (hs:text.size≤140737488351232) (ha:a≤text.size):Ja text a=some (XY text a):=by
 obtain ⟨r,hr,_⟩:=Vy hs ha
 rw [XY,hr];rfl
theorem CAG {text:ByteArray} {a:Nat} (hs:text.size≤140737488351232) (ha:a≤text.size):Eb text a=some (XY text a):=by
 obtain ⟨r,hr,hR⟩:=Vy hs ha
 obtain ⟨r',hr',hR'⟩:=AAG hs ha
 have e:XY text a=r:=by rw [XY,hr];rfl
 rw [e]
 rcases hR with rfl | ⟨v,rfl,h0,h1,hA⟩
 ·rcases hR' with rfl | ⟨v,rfl,h0,h1,hA⟩
  ·exact hr'
  ·rw [O9 hs h0 h1 hA] at hr
   have h2:true=false:=congrArg (fun x=>(Option.getD x Zb).2.2) hr
   cases h2
 ·exact P9 hs h0 h1 hA
theorem S9 {text:ByteArray} {a:Nat} (hs:text.size≤140737488351232) (ha:a≤text.size):Rq text a (XY text a):=by
 obtain ⟨r,hr,hR⟩:=Vy hs ha
 have e:XY text a=r:=by rw [XY,hr];rfl
 rw [e];exact hR
theorem EAG {text:ByteArray} {a:Nat} {V:Int} (hs:text.size≤140737488351232) (hV0:0≤V) (hV:V≤1000000000) (hA:At text a (IK V)):XY text a=(V,((a+(IK V).length:Nat):Int),true):=by
 rw [XY,O9 hs hV0 hV hA];rfl
noncomputable def ZY (text:ByteArray) (a:Nat):ByteArray×Int×Bool:=
 bif !(XY text a).2.2 || (decide ((XY text a).1 > 20000) || decide ((XY text a).1 > (text.size:Int) - (XY text a).2.1)) then (⟨#[]⟩,0,false)
 else (text.extract (XY text a).2.1.toNat ((XY text a).2.1+(XY text a).1).toNat,(XY text a).2.1+(XY text a).1,true)
theorem Jm:∀ {a m:List Int},CV a→a.length≤m.length→KY (KY a m) m=a
 | [],_,_,_=>by simp [KY]
 | _::_,[],_,h=>by simp at h
 | x::a,y::m,hb,h=>by
  have h1:=Jm (a:=a) (m:=m) (fun n hn=>hb n (List.mem_cons_of_mem _ hn)) (by simpa using h)
  simp only [KY] at h1 ⊢
  rw [List.zipWith_cons_cons,List.zipWith_cons_cons,h1,TAD (hb x (List.mem_cons_self ..))]
theorem U9 {k t:ByteArray} {num:Int} (h:(SN k num t).2=true):16≤t.size∧maskOk num ((t.size:Int) - 16)=true∧IZ (bs k) num ((bs t).take (t.size - 16))=(bs t).drop (t.size - 16)∧bs (SN k num t).1=KY ((bs t).take (t.size - 16)) (RY (bs k) (IK num) (t.size - 16))∧bs t=(bs t).take (t.size - 16)++IZ (bs k) num ((bs t).take (t.size - 16)):=by
 rw [SN] at h ⊢
 cases h1:decide ((t.size:Int)<16) || !(maskOk num ((t.size:Int) - 16))
 ·rw [h1,cond_false] at h
  rw [Bool.or_eq_false_iff,decide_eq_false_iff_not,Bool.not_eq_false'] at h1
  cases h2:(IZ (bs k) num ((bs t).take (t.size - 16)) == (bs t).drop (t.size - 16))
  ·rw [h2] at h;cases h
  ·rw [cond_false,cond_true,NM (Vb _ _)]
   have h3:=beq_iff_eq.1 h2
   exact ⟨by omega,h1.2,h3,rfl,by rw [h3,List.take_append_drop]⟩
 ·rw [h1] at h;cases h
theorem V9 (k t:ByteArray) (num:Int):(SN k num t).1.size≤t.size:=by
 have hl:=bs_len t
 rw [SN]
 cases decide ((t.size:Int)<16) || !(maskOk num ((t.size:Int) - 16))
 ·rw [cond_false]
  cases (IZ (bs k) num ((bs t).take (t.size - 16)) == (bs t).drop (t.size - 16))
  ·exact Nat.zero_le _
  ·rw [cond_true,ofBytes_size,KY,List.length_zipWith,List.length_take];omega
 ·exact Nat.zero_le _
theorem FAG {k:ByteArray} {num:Int} {s:List Int} (hs:CV s) (hm:maskOk num s.length=true):SN k num (ofBytes (NY (bs k) num s))=(ofBytes s,true):=by
 have hx:(KY s (RY (bs k) (IK num) s.length)).length=s.length:=Xd (by rw [PZ];omega)
 have hb:CV (NY (bs k) num s):=fun x hx=>by
  rcases List.mem_append.1 hx with hx | hx
  ·exact Vb _ _ x hx
  ·exact Xa _ _ _ x hx
 have hsz:(ofBytes (NY (bs k) num s)).size=s.length+16:=by rw [ofBytes_size,NY,List.length_append,hx,Ih]
 rw [SN,NM hb,hsz,Nat.add_sub_cancel,show ((s.length+16:Nat):Int) - 16=(s.length:Int) by omega,hm]
 have h1:decide (((s.length+16:Nat):Int)<16)=false:=by rw [decide_eq_false_iff_not];omega
 have h2:(NY (bs k) num s).take s.length=KY s (RY (bs k) (IK num) s.length):=by rw [NY,List.take_append_of_le_length (by omega),List.take_of_length_le (by omega)]
 have h3:(NY (bs k) num s).drop s.length=IZ (bs k) num (KY s (RY (bs k) (IK num) s.length)):=by rw [NY,List.drop_append_of_le_length (by omega),List.drop_of_length_le (by omega),List.nil_append]
 rw [h1,h2,h3,beq_self_eq_true,Jm hs (by rw [PZ];omega)]
 rfl
theorem W9 {k t:ByteArray} {num:Int} (h:(SN k num t).2=true):NY (bs k) num (bs (SN k num t).1)=bs t:=by
 obtain ⟨h1,h2,h3,h4,h5⟩:=U9 h
 have hl:((bs t).take (t.size - 16)).length=t.size - 16:=by rw [List.length_take,bs_len];omega
 have hx:(bs (SN k num t).1).length=t.size - 16:=by rw [h4,Xd (by rw [PZ];omega),hl]
 rw [NY,hx,h4,Jm (fun n hn=>VZ t n (List.mem_of_mem_take hn)) (by rw [PZ];omega),←h5]
theorem GAG {k:ByteArray} {num:Int} {a b:List Int} (ha:CV a) (hb:CV b) (h:NY (bs k) num a=NY (bs k) num b):a=b:=by
 have xa:(KY a (RY (bs k) (IK num) a.length)).length=a.length:=Xd (by rw [PZ];omega)
 have xb':(KY b (RY (bs k) (IK num) b.length)).length=b.length:=Xd (by rw [PZ];omega)
 have hl:=congrArg List.length h
 rw [NY,NY,List.length_append,List.length_append,xa,xb',Ih,Ih] at hl
 have hab:a.length=b.length:=by omega
 have h1:=(List.append_inj h (by rw [xa,xb',hab])).1
 have h2:KY (KY a (RY (bs k) (IK num) a.length)) (RY (bs k) (IK num) a.length)=KY (KY b (RY (bs k) (IK num) b.length)) (RY (bs k) (IK num) b.length):=by rw [h1,hab]
 rw [Jm ha (by rw [PZ];omega),Jm hb (by rw [PZ];omega)] at h2
 exact h2
noncomputable def Ea (k t:ByteArray):ByteArray×Bool:=
 bif !(SN k 0 t).2 || (!(ZY (SN k 0 t).1 0).2.2 || (decide (((ZY (SN k 0 t).1 0).1.size:Int) > 400) || !(SY (bs (ZY (SN k 0 t).1 0).1) == bs (SN k 0 t).1))) then (⟨#[]⟩,false)
 else ((ZY (SN k 0 t).1 0).1,true)
theorem HAG {text:ByteArray} {a:Nat} (hs:text.size≤140737488351232) (ha:a≤text.size):Lc text a=some (ZY text a):=by
 have hx:=S9 hs ha
 rw [Lc,Nj,CAG hs ha,Option.bind_some,ZY]
 rcases hx with hx | ⟨v,hx,h0,h1,hA⟩
 ·rw [hx];rfl
 ·rw [hx]
  have hsz:=hA.size.resolve_left (by have:=Ob v;intro h;rw [h] at this;simp at this)
  simp only [Bool.not_true,cond_false,Bool.false_or]
  rw [w64_id (n:=(text.size:Int) - ((a+(IK v).length:Nat):Int)) (by omega) (by omega),w64_id (n:=((a+(IK v).length:Nat):Int)+v) (by omega) (by omega)]
  by_cases h2:v > 20000
  ·rw [TB (by simp;omega),TB (by simp;omega)]
  by_cases h3:v > (text.size:Int) - ((a+(IK v).length:Nat):Int)
  ·rw [FN (by simp;omega),TB (by simp;omega),TB (by simp;omega)]
  ·rw [FN (by simp;omega),FN (by simp;omega),TB (by simp;omega),FN (by simp;omega)]
theorem X9 {k t:ByteArray} (hk:k.size≤900000000) (ht:t.size≤800000000):Oj k t=some (Ea k t):=by
 have hz:=V9 k t 0
 have hr0:=HAG (text:=(SN k 0 t).1) (a:=0) (by omega) (Nat.zero_le _)
 rw [show ((0:Nat):Int)=0 from rfl] at hr0
 rw [Oj,Zu,RAF hk ht,Option.bind_some,hr0,Option.bind_some,Ea]
 cases (SN k 0 t).2
 ·rfl
 ·rw [FN (by rfl)]
  cases (ZY (SN k 0 t).1 0).2.2
  ·rfl
  ·rw [FN (by rfl)]
   by_cases h:400<(ZY (SN k 0 t).1 0).1.size
   ·have e:decide (((ZY (SN k 0 t).1 0).1.size:Int) > 400)=true:=decide_eq_true (by omega)
    rw [e];rfl
   ·have e:decide (((ZY (SN k 0 t).1 0).1.size:Int) > 400)=false:=decide_eq_false (by omega)
    rw [e,cond_false,N8 (by omega),Option.bind_some,Jq,NM (Iq (VZ _))]
    cases (SY (bs (ZY (SN k 0 t).1 0).1) == bs (SN k 0 t).1) <;> rfl
theorem IAG {n:Int} (h:0≤n) (h2:n≤255):Ef n=some (ofBytes [n]):=by
 have e:n.tmod 256=n:=by rw [Int.tmod_eq_emod_of_nonneg h];omega
 simp only [Ef,Dv,e]
 rw [show decide (n<0)=false from decide_eq_false (by omega),w8_id h h2]
 rfl
def Hg (b:Int):Nat→List Int
 | 0=>[]
 | i+1=>(b / 256 ^ i % 256)::Hg b i
def Ac:Nat→Nat
 | 0=>0
 | i+1=>Ac i+(i+2)
theorem JAG (x:Int) (j:Nat):x / 256 / 256 ^ j=x / 256 ^ (j+1):=by
 rw [Int.ediv_ediv_of_nonneg (by omega)]
 congr 1
 rw [Int.pow_succ,Int.mul_comm]
theorem KAG (h:SHasher) (b:Int):∀ (j k i m:Nat) (x:Int) (t:List Int),k+j=i→i≤7→0≤x→x≤9223372036854775807→t.length≤1000→
  CZ (m+j+1) (.c2 b (i:Int) x (k:Int) h t)=CZ m (.c1 b ((i:Int) - 1) h (t++[x / 256 ^ j % 256])):=by
 intro j
 induction j with
 | zero=>
  intro k i m x t hk hi hx hx2 ht
  have e:w64 ((i:Int) - 1)=(i:Int) - 1:=w64_id (by omega) (by omega)
  have e2:w8 (x.tmod 256)=x % 256:=by rw [Int.tmod_eq_emod_of_nonneg hx,w8_id (by omega) (by omega)]
  rw [CZ]
  simp only [Jb,e,e2]
  rw [FN (by simp;omega),TB (by simp;omega),Int.pow_zero,Int.ediv_one]
 | succ j ih=>
  intro k i m x t hk hi hx hx2 ht
  have e:w64 ((k:Int)+1)=((k+1:Nat):Int):=by rw [w64_id (by omega) (by omega)];rfl
  have e2:w64 (x.tdiv 256)=x / 256:=by rw [Int.tdiv_eq_ediv_of_nonneg hx,w64_id (by omega) (by omega)]
  rw [show m+(j+1)+1=(m+j+1)+1 by omega,CZ]
  simp only [Jb,e,e2]
  rw [TB (by simp;omega),ih (k+1) i m (x / 256) t (by omega) hi (by omega) (by omega) ht,JAG]
theorem LAG (h:SHasher) (b:Int) (hb:0≤b) (hb2:b≤9223372036854775807):∀ (i m:Nat) (t:List Int),i≤8→t.length+i≤900→CZ (m+Ac i) (.c1 b ((i:Int) - 1) h t)=CZ m (.c1 b (-1) h (t++Hg b i)):=by
 intro i
 induction i with
 | zero=>intro m t _ _;simp [Ac,Hg]
 | succ i ih=>
  intro m t hi ht
  rw [Ac,show m+(Ac i+(i+2))=(m+Ac i)+i+1+1 by omega,CZ,show ((i+1:Nat):Int) - 1=(i:Int) by omega]
  simp only [Jb]
  rw [TB (by simp),show (0:Int)=((0:Nat):Int) from rfl,KAG h b i 0 i _ b t (by omega) (by omega) hb hb2 (by omega),ih m _ (by omega) (by simp;omega)]
  simp [Hg]
theorem MAG {b:Int} (h:0≤b) (h2:b<1099511627776):Hg b 8=Oa b:=by
 simp only [Hg,Oa,List.cons.injEq,and_true]
 omega
theorem NAG (r:Reg) (hr:r.ok) (t:List Int) (ht:CV t) (n:Nat) (hn:t.length=64*n) (hn2:n≤100):∀ (j i m:Nat),i+j=n→CZ (m+j+1) (.c3 ((64*i:Nat):Int) t (comps i r t).l keysL)=some (ofBytes (TT (comps n r t).l)):=by
 intro j
 induction j with
 | zero=>
  intro i m h
  obtain rfl:i=n:=by omega
  rw [CZ]
  simp only [Jb]
  rw [FN (by simp;omega),Qy (Reg.Bg (Ag hr _ _)) (by simp [Reg.l]),Option.bind_some]
 | succ j ih=>
  intro i m h
  have e:w64 (((64*i:Nat):Int)+64)=((64*(i+1):Nat):Int):=by rw [w64_id (by omega) (by omega)];omega
  have hl:((t.drop (64*i)).take (64*(i+1) - 64*i)).length=64:=by rw [List.length_take,List.length_drop];omega
  have hby:CV ((t.drop (64*i)).take (64*(i+1) - 64*i)):=fun x hx=>ht x (List.mem_of_mem_drop (List.mem_of_mem_take hx))
  rw [show m+(j+1)+1=(m+j+1)+1 by omega,CZ]
  simp only [Jb,e,Int.toNat_natCast]
  rw [TB (by simp;omega),TB (by simp;omega),U8 (Ag hr _ _) (by rw [ofBytes_size,hl]),Option.bind_some,NM hby,show 64*(i+1) - 64*i=64 by omega,←Y8]
  exact ih (i+1) m (by omega)
theorem OAG (h:SHasher) (r:List Int) (hr:r.length<64):∀ (j i m:Nat),i+j=(119 - r.length) % 64→CZ (m+j+1) (.c0 h (r++128::List.replicate i 0))=CZ m (.c1 (w64 (8*h.fCount)) 7 h (r++128::List.replicate ((119 - r.length) % 64) 0)):=by
 intro j
 induction j with
 | zero=>
  intro i m hi
  rw [CZ]
  simp only [Jb]
  rw [FN (by rw [Int.tmod_eq_emod_of_nonneg (by omega)];simp;omega),show i=(119 - r.length) % 64 by omega]
 | succ j ih=>
  intro i m hi
  rw [show m+(j+1)+1=(m+j+1)+1 by omega,CZ]
  simp only [Jb]
  rw [TB (by rw [Int.tmod_eq_emod_of_nonneg (by omega)];simp;omega),TB (by simp;omega)]
  have e:(r++128::List.replicate i (0:Int))++[0]=r++128::List.replicate (i+1) 0:=by
   rw [List.replicate_succ'];simp
  rw [e]
  exact ih (i+1) m (by omega)
theorem PAG {r:Reg} (hr:r.ok) {s:ByteArray} {n:Nat} (hs:s.size=n % 64) (hn:n≤1000000000):Qk ⟨ofBytes (TT r.l),s,(n:Int)⟩=some (ofBytes (TT (comps ((s.size+(LY n).length) / 64) r (bs s++LY n)).l)):=by
 have e0:RZ ⟨ofBytes (TT r.l),s,(n:Int)⟩=some true:=V8 (by rw [ofBytes_size,Eh];rfl) (by simp only;omega) (by simp only;omega) (by simp only;omega)
 have hl:=bs_len s
 obtain ⟨m,hm⟩:∃ m,gas=((m+((s.size+(LY n).length) / 64)+1+1+Ac 8)+((119 - (bs s).length) % 64)+1):=⟨gas - (((s.size+(LY n).length) / 64)+1+1+Ac 8+((119 - (bs s).length) % 64)+1),by
  have:=gas_lt (n:=1000) (by omega)
  have h2:=Aq n
  have h3:Ac 8=44:=rfl
  omega⟩
 have hw:w64 (8*(n:Int))=8*(n:Int):=w64_id (by omega) (by omega)
 have hrep:(bs s++128::List.replicate ((119 - (bs s).length) % 64) 0)++Hg (8*(n:Int)) 8=bs s++LY n:=by
  rw [MAG (by omega) (by omega),LY,hl,hs,show (119 - n % 64) % 64=(119 - n % 64) % 64 from rfl]
  simp
 rw [Qk,Zv,e0,Option.bind_some,FN (by rfl),TB (by simp;omega),Bh,TB (by rw [hl];simp;omega),hm]
 have h0:=OAG ⟨ofBytes (TT r.l),s,(n:Int)⟩ (bs s) (by omega) ((119 - (bs s).length) % 64) 0 (m+((s.size+(LY n).length) / 64)+1+1+Ac 8) (by omega)
 rw [List.replicate_zero] at h0
 rw [h0,show (7:Int)=((8:Nat):Int) - 1 from rfl]
 simp only [hw]
 rw [LAG _ _ (by omega) (by omega) 8 _ _ (by omega) (by simp;omega),hrep,CZ]
 simp only [Jb]
 rw [FN (by simp),Z8 hr,Option.bind_some,X8,Option.bind_some]
 have hb:CV (bs s++LY n):=fun x hx=>by
  rcases List.mem_append.1 hx with hx | hx
  ·exact VZ s x hx
  ·exact Ky n x hx
 have hlen:(bs s++LY n).length=64*((s.size+(LY n).length) / 64):=by
  have:=SAD n
  rw [List.length_append,hl]
  omega
 exact NAG r hr _ hb _ hlen (by have:=Aq n;omega) ((s.size+(LY n).length) / 64) 0 m (by omega)
theorem QAG (b:List Int):comps ((b.length+(LY b.length).length) / 64) WZ (b++LY b.length)=comps ((b.length % 64+(LY b.length).length) / 64) (comps (b.length / 64) WZ b) (b.drop (64*(b.length / 64))++LY b.length):=by
 rw [show (b.length+(LY b.length).length) / 64=b.length / 64+(b.length % 64+(LY b.length).length) / 64 by omega,Z7,PAD _ _ _ _ (by omega),List.drop_append_of_le_length (by omega)]
theorem Wy {s:ByteArray} (hs:s.size≤1000000000):Nc s=some (Qa s):=by
 have h1:(s.extract (64*(s.size / 64)) s.size).size=s.size % 64:=by simp;omega
 have h:=PAG (Ag Td (s.size / 64) (bs s)) (s:=s.extract (64*(s.size / 64)) s.size) h1 hs
 rw [MZ,h1,List.take_of_length_le (by rw [bs_len];omega)] at h
 rw [Nc,Aw,IAF,Option.bind_some,KAF hs,Option.bind_some,h,Option.bind_some,Qa,NZ,QAG,bs_len]
theorem Y9 (k:List Int) {i:Nat}:(PY k).getD i 0=k.getD i 0:=by
 by_cases h:i<k.length
 ·rw [PY,Ul h]
 ·rw [PY,Ah (by omega)]
  simp only [List.getD]
  rw [List.getElem?_eq_none (by omega:k.length≤i)]
  by_cases h2:i - k.length<64 - k.length
  ·rw [List.getElem?_replicate,if_pos h2];rfl
  ·rw [List.getElem?_replicate,if_neg h2]
theorem Z9 (f:Int→Int) {l:List Int} (hl:l.length=64) {i:Nat} (h:i<64) (y:Int) (hy:y=f (l.getD i 0)):((l.take i).map f++List.replicate (64 - i) 0).set i y=(l.take (i+1)).map f++List.replicate (64 - (i+1)) 0:=by
 rw [show 64 - i=(64 - (i+1))+1 by omega,List.replicate_succ,Vf (by simp;omega),take_at (by omega),hy,getD_at (by omega),List.map_append,List.append_assoc]
 rfl
theorem AAA {k:ByteArray} (hk:k.size≤64) (x:Int):Yg gas (.c0 k x (0:Int) (List.replicate (64:Int).toNat (0:Int)))=some (ofBytes (DZ x (PY (bs k)))):=by
 have hl:(PY (bs k)).length=64:=by rw [PY,List.length_append,List.length_replicate,bs_len];omega
 have key:=loopN (A:=Unit) (n:=64) (Lp:=Yg) (st:=fun i _=>.c0 k x (i:Int) (((PY (bs k)).take i).map (fun b=>xb b x)++List.replicate (64 - i) 0)) (Inv:=fun _ _=>True) (out:=fun _ _=>some (ofBytes (DZ x (PY (bs k)))))
  (fun m _ _=>by
   rw [Yg]
   simp only [Ap]
   rw [FN (by simp),List.take_of_length_le (by omega),Nat.sub_self,List.replicate_zero,List.append_nil];rfl)
  (fun m i _ hi _=>.inr ⟨(),by
   have e:w64 ((i:Int)+1)=((i+1:Nat):Int):=by rw [w64_id (by omega) (by omega)];rfl
   have hlen:(((PY (bs k)).take i).map (fun b=>xb b x)++List.replicate (64 - i) 0).length=64:=by simp [hl];omega
   have hm:(((PY (bs k)).take i).map (fun b=>xb b x)).length=i:=by simp [hl];omega
   rw [Yg]
   simp only [Ap,e,Int.toNat_natCast,List.length_set,hlen,Dq]
   rw [TB (by simp;omega)]
   by_cases h:i<k.size
   ·rw [TB (by simp;omega),TB (by simp;omega),TB (by simp;omega),TB (by simp;omega),TB (by simp;omega),Uc h]
    rw [List.set_set,CAD (by omega)]
    rw [Z9 (fun b=>xb b x) hl hi _ (by rw [Y9])]
   ·rw [FN (by simp;omega),TB (by simp;omega),TB (by simp;omega)]
    rw [Ah (by omega),hm,Nat.sub_self]
    rw [Z9 (fun b=>xb b x) hl hi _ (by
     rw [Y9,show (bs k).getD i 0=0 by simp [List.getD,List.getElem?_eq_none (show (bs k).length≤i by rw [bs_len];omega)]]
     rw [show 64 - i=(63 - i)+1 by omega,List.replicate_succ];rfl)],trivial,rfl⟩)
 exact key gas 0 () (Nat.zero_le _) (gas_lt (by omega)) trivial
theorem BAA {k:ByteArray} (hk:k.size≤1000000000) (x:Int):Vk k x=some (ofBytes (DZ x (Ua (bs k)))):=by
 rw [Vk,Gw]
 by_cases h:64<k.size
 ·rw [TB (by simp;omega),Wy hk,Option.bind_some,AAA (by rw [Fg];omega),Ua,if_pos (by rw [bs_len];omega),Bq]
 ·rw [FN (by simp;omega),AAA (by omega),Ua,if_neg (by rw [bs_len];omega)]
theorem CAA {k s:ByteArray} (hk:k.size≤900000000) (hs:s.size≤900000000):Oc k s=some (Qb k s):=by
 have x1:=Fq 92 (Ua (bs k))
 have x2:=Fq 54 (Ua (bs k))
 have x3:=UAD (bs k)
 rw [Oc,Hw,BAA (by omega),Option.bind_some,BAA (by omega),Option.bind_some,TB (by rw [ofBytes_size,decide_eq_true_eq];omega)]
 rw [Wy (by rw [ByteArray.size_append,ofBytes_size];omega),Option.bind_some,TB (by rw [ofBytes_size,Fg,decide_eq_true_eq];omega),Wy (by rw [ByteArray.size_append,ofBytes_size,Fg];omega),Option.bind_some]
 rw [Qa,OY,Bq,OY,NM (Gq _ _),NM (Gq _ _),Qb,Va]
theorem DAA {k:ByteArray} {num n:Int} (hk:k.size≤900000000):Jf k num n=some (Ud k num n):=by
 rw [Jf,Jw,Gh,Option.bind_some,Ud,maskOk]
 cases h:QY num 0 1000000000
 ·rfl
 ·rw [OZ] at h
  rw [FN (by rfl),Gh,Option.bind_some]
  cases h2:QY n 0 8000
  ·rfl
  ·rw [OZ] at h2
   rw [FN (by rfl),Bool.and_self,cond_true]
   have hv:=Yc (n:=num) (by omega)
   have hvb:=Vd h.1
   have key:=loopN (A:=Unit) (n:=(n.toNat+31) / 32) (Lp:=Zk) (st:=fun i _=>.c0 k num n (i:Int) (Ub (bs k) (IK num) i)) (Inv:=fun _ _=>True) (out:=fun _ _=>some (ofBytes (RY (bs k) (IK num) n.toNat),true))
    (fun m _ _=>by
     rw [Zk]
     simp only [Ep]
     rw [FN (by rw [Bd,decide_eq_false_iff_not];omega),TB (by rw [Bd];simp;omega)]
     rfl)
    (fun m i _ hi _=>.inr ⟨(),by
     have e:w64 ((i:Int)+1)=((i+1:Nat):Int):=by rw [w64_id (by omega) (by omega)];rfl
     have h9:(⟨#[109]⟩:ByteArray).size=1:=rfl
     rw [Zk]
     simp only [Ep,e]
     rw [TB (by rw [Bd,decide_eq_true_eq];omega),Xp (by omega),Option.bind_some,TB (by rw [ofBytes_size,h9,decide_eq_true_eq];omega),IAG (by omega) (by omega),Option.bind_some,TB (by rw [ByteArray.size_append,ofBytes_size,ofBytes_size,h9,decide_eq_true_eq,List.length_singleton];omega)]
     rw [CAA hk (by rw [ByteArray.size_append,ByteArray.size_append,ofBytes_size,ofBytes_size,h9,List.length_singleton];omega),Option.bind_some,I8 k h.1 h.2 i (by omega),Bh,NM (Zl _ _),TB (by rw [ofBytes_size,Fh];rfl),TB (by rw [Bd,Fh,decide_eq_true_eq];omega)]
     rfl,trivial,rfl⟩)
   exact key gas 0 () (Nat.zero_le _) (gas_lt (by omega)) trivial
theorem EAA {a b:ByteArray} (ha:a.size≤140737488351232) (h:a.size≤b.size):Rf a b=some (ofBytes (KY (bs a) (bs b))):=by
 have hl:=bs_len a
 have hl2:=bs_len b
 have key:=loopN (A:=Unit) (n:=(bs a).length) (Lp:=Dl) (st:=fun i _=>.c0 b (i:Int) (List.zipWith xb ((bs a).take i) ((bs b).take i)++(bs a).drop i)) (Inv:=fun _ _=>True) (out:=fun _ _=>some (ofBytes (KY (bs a) (bs b))))
  (fun m _ _=>by
   rw [Dl]
   simp only [Gp]
   rw [FN (by simp;omega),List.take_length,List.drop_length,List.append_nil,KY,Oy])
  (fun m i _ hi _=>.inr ⟨(),by
   have e:w64 ((i:Int)+1)=((i+1:Nat):Int):=by rw [w64_id (by omega) (by omega)];rfl
   have hlen:(List.zipWith xb ((bs a).take i) ((bs b).take i)++(bs a).drop i).length=(bs a).length:=by simp;omega
   rw [Dl]
   simp only [Gp,e,Int.toNat_natCast,hlen,Dq,L8 hi (show i<(bs b).length by omega)]
   rw [TB (by simp;omega),TB (by simp;omega),TB (by simp;omega),TB (by simp;omega),Uc (by omega),J8 hi (by omega)],trivial,rfl⟩)
 rw [Rf,Kw,TB (by simp;omega),Bh]
 exact key gas 0 () (Nat.zero_le _) (gas_lt (by omega)) trivial
theorem FAA {k s:ByteArray} {num:Int} (hk:k.size≤900000000) (hn:0≤num∧num≤1000000000) (hs:s.size≤800000000):Tf k num s=some (ofBytes (IZ (bs k) num (bs s))):=by
 have hv:=Yc (n:=num) (by omega)
 have h9:(⟨#[116]⟩:ByteArray).size=1:=rfl
 have e:bs (⟨#[116]⟩:ByteArray)=[116]:=rfl
 have h16:(16:Int).toNat=16:=rfl
 rw [Tf,Nw,Xp (by omega),Option.bind_some,TB (by rw [ofBytes_size,h9,decide_eq_true_eq];omega),TB (by rw [ByteArray.size_append,ofBytes_size,h9,decide_eq_true_eq];omega)]
 rw [CAA hk (by rw [ByteArray.size_append,ByteArray.size_append,ofBytes_size,h9];omega),Option.bind_some,TB (by rw [H8];decide)]
 refine congrArg some (KZ ?_)
 rw [MZ,G8,h16,NM (Xa _ _ _),OY,OY,e,NM (Vd hn.1),IZ,List.drop_zero,List.append_assoc]
 rfl
theorem GAA {k s:ByteArray} {num:Int} (hk:k.size≤900000000) (hs:s.size≤800000000):Qc k num s=some (EZ k num s):=by
 rw [Qc,Qw,DAA hk,Option.bind_some,Ud,EZ]
 cases h:maskOk num s.size
 ·rfl
 ·have h':=Cm.1 h
  have hm:=PZ (bs k) (IK num) ((s.size:Int).toNat)
  have hl:=bs_len s
  rw [cond_true,cond_true,FN (by rfl),EAA (by omega) (by rw [ofBytes_size,hm];omega),Option.bind_some,NM (Am _ _ _)]
  have hx:(KY (bs s) (RY (bs k) (IK num) (s.size:Int).toNat)).length=s.size:=by rw [Xd (by omega),hl]
  rw [FAA hk h'.1 (by rw [ofBytes_size,hx];omega),Option.bind_some,NM (Vb _ _),TB (by rw [ofBytes_size,ofBytes_size,hx,Ih,decide_eq_true_eq];omega)]
  refine congrArg (fun x=>some (x,true)) (KZ ?_)
  rw [OY,NM (Vb _ _),NM (Xa _ _ _),NM (fun x hx=>by
   rcases List.mem_append.1 hx with hx | hx
   ·exact Vb _ _ x hx
   ·exact Xa _ _ _ x hx),NY,hl]
  rfl
theorem Xy {k s:ByteArray} (hk:k.size≤900000000):Tc k s=some (WY k s):=by
 rw [Tc,Uw,WY]
 by_cases h:400<s.size
 ·rw [TB (by simp;omega),TB (by simp;omega)]
 ·have h2:=Em (l:=bs s) (by rw [bs_len];omega)
  have hl:=bs_len s
  have h1:=Yc (n:=(s.size:Int)) (by omega)
  have hz:(ofBytes (IK (s.size:Int))++s).size=(IK (s.size:Int)++bs s).length:=by rw [ByteArray.size_append,ofBytes_size,List.length_append,hl]
  have hlen:(IK (s.size:Int)++bs s).length=(IK (s.size:Int)).length+s.size:=by rw [List.length_append,hl]
  rw [FN (by simp;omega),FN (by simp;omega),Xp (by omega),Option.bind_some,TB (by rw [ofBytes_size,decide_eq_true_eq];omega),TB (by rw [hz,decide_eq_true_eq];omega)]
  rw [Bh,OY,NM (Vd (by omega))]
  generalize hb:IK (s.size:Int)++bs s=B at hz hlen
  have key:∀ (j i m:Nat),i+j=(16 - B.length % 16) % 16→Jl (m+j+1) (.c0 k (B++List.replicate i 0))=some (EZ k 0 (ofBytes (SY (bs s)))):=by
   intro j
   induction j with
   | zero=>
    intro i m hi
    have e:B++List.replicate i 0=SY (bs s):=by rw [SY,hl,hb];congr 2
    rw [Jl]
    simp only [Jp]
    rw [FN (by rw [Int.tmod_eq_emod_of_nonneg (by omega)];simp;omega),e,GAA hk (by rw [ofBytes_size];omega),Option.bind_some]
   | succ j ih=>
    intro i m hi
    have e:(B++List.replicate i (0:Int))++[0]=B++List.replicate (i+1) 0:=by rw [List.replicate_succ'];simp
    rw [show m+(j+1)+1=(m+j+1)+1 by omega,Jl]
    simp only [Jp]
    rw [TB (by rw [Int.tmod_eq_emod_of_nonneg (by omega)];simp;omega),TB (by simp;omega),e]
    exact ih (i+1) m (by omega)
  obtain ⟨m,hm⟩:∃ m,gas=m+(16 - B.length % 16) % 16+1:=⟨gas - ((16 - B.length % 16) % 16+1),by have:=gas_lt (n:=(16 - B.length % 16) % 16+1) (by omega);omega⟩
  have h0:=key ((16 - B.length % 16) % 16) 0 m (by omega)
  rw [List.replicate_zero,List.append_nil] at h0
  rw [hm]
  exact h0
theorem RAG {c:SL01Cur} {s:ByteArray} (hc:UY c) (hs:s.size≤1000000000):Ok (Ll c s) fun r=>r.1.size≤s.size+1∧UY r.2:=by
 have hw:w64 ((s.size:Int)+1)=(s.size:Int)+1:=w64_id (by omega) (by omega)
 rw [Ll,Zw]
 refine Ok.bind (Xc hc) fun a ha=>Ok.cond (fun _=>?_) fun _=>Ok.cond (fun _=>?_) fun _=>Ok.cond (fun _=>Ok.cond (fun _=>Ok.cond (fun h=>?_) fun _=>Ok.ret ⟨Nat.le_succ _,ha.2⟩) fun _=>Ok.ret ⟨Nat.le_succ _,ha.2⟩) fun _=>Ok.cond (fun _=>Ok.cond (fun h=>?_) fun _=>Ok.ret ⟨Nat.le_succ _,ha.2⟩) fun _=>Ok.ret ⟨Nat.le_succ _,ha.2⟩
 ·refine Ok.bind (Wp ha.2 (by omega)) fun t ht=>?_
  have h1:=ht.1
  exact Ok.chk (by rw [decide_eq_true_eq];omega) (Ok.ret ⟨by show (s++t.1).size≤s.size+1;rw [ByteArray.size_append];omega,ht.2⟩)
 ·rw [hw]
  refine Ok.bind (Xc ha.2) fun t ht=>?_
  have h1:=ht.1.2.1 (by omega)
  have h0:=ht.1.1
  exact Ok.chk (by simp;omega) (Ok.ret ⟨by show (s.extract 0 t.1.toNat).size≤s.size+1;rw [ByteArray.size_extract];omega,ht.2⟩)
 all_goals
  rw [decide_eq_true_eq] at h
  refine Ok.bind (Xc ha.2) fun i hi=>?_
  have h1:=hi.1.2.1 (by omega)
  have h0:=hi.1.1
  refine Ok.chk (by simp;omega) (Ok.bind (Wp hi.2 (by omega)) fun t ht=>?_)
  have h2:=ht.1
  have hw2:w64 (i.1+1)=i.1+1:=w64_id (by omega) (by omega)
  rw [hw2]
  have e1:(s.extract 0 i.1.toNat).size=i.1.toNat:=by rw [ByteArray.size_extract];omega
  have e2:(s.extract (i.1+1).toNat s.size).size=s.size - (i.1+1).toNat:=by rw [ByteArray.size_extract];omega
  exact Ok.chk (by rw [decide_eq_true_eq];omega) (Ok.chk (by simp;omega) (Ok.chk (by rw [decide_eq_true_eq,ByteArray.size_append];omega) (Ok.ret ⟨by show ((s.extract 0 i.1.toNat++t.1)++s.extract (i.1+1).toNat s.size).size≤s.size+1;rw [ByteArray.size_append,ByteArray.size_append];omega,ht.2⟩)))
theorem HAA (k:List Int) (num:Int) (s:List Int):(NY k num s).length=s.length+16:=by rw [NY,List.length_append,Xd (by rw [PZ];omega),Ih]
theorem QAH (k:List Int) (num:Int) (s:List Int):CV (NY k num s):=fun x hx=>by
 rcases List.mem_append.1 hx with hx | hx
 ·exact Vb _ _ x hx
 ·exact Xa _ _ _ x hx
theorem IAA (k s:ByteArray) (num:Int):(EZ k num s).1.size≤s.size+16:=by
 rw [EZ]
 cases maskOk num s.size
 ·exact Nat.zero_le _
 ·show (ofBytes (NY (bs k) num (bs s))).size≤_
  rw [ofBytes_size,HAA,bs_len];omega
theorem SAG {k s:ByteArray} {num:Int} (h:(EZ k num s).2=true):SN k num (EZ k num s).1=(s,true)∧(EZ k num s).1.size=s.size+16:=by
 rw [EZ] at h ⊢
 cases hm:maskOk num s.size
 ·rw [hm] at h;cases h
 ·rw [cond_true]
  exact ⟨by show SN k num (ofBytes (NY (bs k) num (bs s)))=_;rw [FAG (VZ s) (by rw [bs_len];exact hm),Uf],by show (ofBytes (NY (bs k) num (bs s))).size=_;rw [ofBytes_size,HAA,bs_len]⟩
theorem UAG {k t:ByteArray} {num:Int} (h:(SN k num t).2=true):EZ k num (SN k num t).1=(t,true):=by
 obtain ⟨h1,h2,h3,h4,h5⟩:=U9 h
 have hl:((bs t).take (t.size - 16)).length=t.size - 16:=by rw [List.length_take,bs_len];omega
 have hx:(SN k num t).1.size=t.size - 16:=by rw [←bs_len,h4,Xd (by rw [PZ];omega),hl]
 rw [EZ,hx,show ((t.size - 16:Nat):Int)=(t.size:Int) - 16 by omega,h2,cond_true,W9 h,Uf]
theorem VAG {text s:ByteArray} {a:Nat} (hs:text.size≤140737488351232) (hz:s.size≤20000) (hA:At text a (IK (s.size:Int)++bs s)):ZY text a=(s,((a+(IK (s.size:Int)).length+s.size:Nat):Int),true):=by
 have hA2:=hA.right
 have hx:=hA2.extract (fun n hn=>Yx hn)
 rw [bs_len,Uf] at hx
 have hp:a+(IK (s.size:Int)).length≤text.size:=by
  rcases hA.left.size with h | h
  ·have:=Ob (s.size:Int);rw [h] at this;simp at this
  ·exact h
 rw [ZY,EAG hs (by omega) (by omega) hA.left]
 generalize a+(IK (s.size:Int)).length=q at *
 have hq:q+s.size≤text.size:=by
  rcases hA2.size with h | h
  ·have:=congrArg List.length h;rw [bs_len,List.length_nil] at this;omega
  ·rw [bs_len] at h;exact h
 dsimp only
 rw [show ((q:Int)+(s.size:Int))=((q+s.size:Nat):Int) from by omega,Int.toNat_natCast,Int.toNat_natCast,hx,show decide ((s.size:Int) > 20000)=false from decide_eq_false (by omega),show decide ((s.size:Int) > (text.size:Int) - (q:Int))=false from decide_eq_false (by omega)]
 rfl
theorem JAA (k s:ByteArray):(WY k s).1.size≤450:=by
 rw [WY]
 cases h:decide ((s.size:Int) > 400)
 ·rw [decide_eq_false_iff_not] at h
  have h1:=IAA k (ofBytes (SY (bs s))) 0
  have h2:=(Em (l:=bs s) (by rw [bs_len];omega)).1
  rw [ofBytes_size] at h1
  rw [bs_len] at h2
  show (EZ k 0 (ofBytes (SY (bs s)))).1.size≤450;omega
 ·exact Nat.zero_le _
theorem WAG {k s:ByteArray} (h:(WY k s).2=true):Ea k (WY k s).1=(s,true)∧(WY k s).1.size % 16=0:=by
 rw [WY] at h ⊢
 cases hs:decide ((s.size:Int) > 400)
 ·rw [hs,cond_false] at h
  rw [cond_false]
  obtain ⟨h1,h2⟩:=SAG h
  have h3:=Em (l:=bs s) (by rw [bs_len];rw [decide_eq_false_iff_not] at hs;omega)
  have hb:=Iq (VZ s)
  refine ⟨?_,by rw [h2,ofBytes_size];omega⟩
  have hz:s.size≤400:=by rw [decide_eq_false_iff_not] at hs;omega
  have hr:=VAG (text:=ofBytes (SY (bs s))) (s:=s) (a:=0) (by rw [ofBytes_size];rw [bs_len] at h3;omega) (by omega) ⟨List.replicate ((16 - (IK (s.size:Int)++bs s).length % 16) % 16) 0,by rw [List.drop_zero,NM hb,SY,bs_len]⟩
  rw [Ea,h1]
  dsimp only
  rw [hr]
  dsimp only
  rw [hs,NM hb,beq_self_eq_true]
  rfl
 ·rw [hs] at h;cases h
theorem XAG {k t:ByteArray} (h:(Ea k t).2=true):WY k (Ea k t).1=(t,true):=by
 rw [Ea] at h ⊢
 cases hc:(!(SN k 0 t).2 || (!(ZY (SN k 0 t).1 0).2.2 || (decide (((ZY (SN k 0 t).1 0).1.size:Int) > 400) || !(SY (bs (ZY (SN k 0 t).1 0).1) == bs (SN k 0 t).1))))
 ·rw [cond_false]
  have hd:=hc
  simp only [Bool.or_eq_false_iff,Bool.not_eq_false',beq_iff_eq] at hd
  obtain ⟨h1,h2,h3,h4⟩:=hd
  show WY k (ZY (SN k 0 t).1 0).1=(t,true)
  rw [WY,h3,cond_false,h4,Uf,UAG h1]
 ·rw [hc] at h;cases h
theorem YAG:Ok (Nl ()) fun r=>r.1.size≤100∧r.2.size≤1000:=by
 rw [Nl,Gx]
 refine Ok.bind D7 fun c hc=>Ok.bind (G7 hc) fun k hk=>Ok.bind (Ey hk.2) fun s hs=>?_
 have h1:=hk.1
 have h2:=hs.1
 have h3:=JAA k.1 s.1
 refine Ok.bind (Ok.eq (Xy (by omega))) fun t ht=>Ok.bind (Xc hs.2) fun q hq=>?_
 subst ht
 refine Ok.cond (fun _=>?_) fun _=>Ok.cond (fun _=>?_) fun _=>Ok.ret ⟨h1,by show (WY k.1 s.1).1.size≤1000;omega⟩
 ·refine Ok.bind (RAG hq.2 (by omega)) fun u hu=>Ok.ret ⟨h1,?_⟩
  have:=hu.1
  show u.1.size≤1000;omega
 ·refine Ok.bind (Ey hq.2) fun u hu=>?_
  have h4:=hu.1
  have h5:=IAA k.1 u.1 0
  refine Ok.bind (Ok.eq (GAA (by omega) (by omega))) fun t ht=>Ok.ret ⟨h1,?_⟩
  subst ht
  show (EZ k.1 0 u.1).1.size≤1000;omega
theorem AAH {k t:ByteArray} {num:Int} (hk:k.size≤900000000) (ht:t.size≤800000000):Ol k num t=some (SN k num t):=by
 rw [Ol,Rx,SN]
 have hw:w64 ((t.size:Int) - 16)=(t.size:Int) - 16:=w64_id (by omega) (by omega)
 rw [hw]
 by_cases h:t.size<16
 ·rw [TB (by simp;omega),TB (by simp;omega)]
 ·obtain ⟨n,hn⟩:∃ n,t.size=n+16:=⟨t.size - 16,by omega⟩
  obtain ⟨e1,e2⟩:=J9 t hn
  have hz:(t.size:Int) - 16=(n:Int):=by omega
  have hb:=bs_len t
  have hes:(t.extract 0 n).size=n:=by simp;omega
  rw [FN (by simp;omega),hz,Int.toNat_natCast,hes,TB (by simp;omega),DAA hk,Option.bind_some,Ud,show decide ((t.size:Int)<16)=false by simp;omega,Bool.false_or]
  cases hm:maskOk num n
  ·rfl
  ·have h':=Cm.1 hm
   have hml:=PZ (bs k) (IK num) n
   rw [Bool.not_true,cond_false,cond_true,FN (by rfl),Int.toNat_natCast,FAA hk h'.1 (by omega),Option.bind_some,TB (by simp;omega)]
   simp only [Np,Px,Option.bind_some,Jq,NM (Xa _ _ _),e1,e2]
   cases hc:(IZ (bs k) num ((bs t).take (t.size - 16)) == (bs t).drop (t.size - 16))
   ·rfl
   ·rw [Bool.not_true,cond_false,EAA (by omega) (by rw [ofBytes_size,hml];omega),Option.bind_some,NM (Am _ _ _),e1,cond_true,show t.size - 16=n by omega]
theorem BAH {k t:ByteArray} (hk:k.size≤900000000) (ht:t.size≤800000000):Sl k t=some (Ea k t):=by
 have hz:=V9 k t 0
 have hr0:=BAG (text:=(SN k 0 t).1) (a:=0) (by omega) (Nat.zero_le _)
 rw [show ((0:Nat):Int)=0 from rfl] at hr0
 rw [Sl,Wx,AAH hk ht,Option.bind_some,hr0,Option.bind_some,Ea]
 cases ho:(SN k 0 t).2
 ·rfl
 ·have hx:=S9 (text:=(SN k 0 t).1) (a:=0) (by omega) (Nat.zero_le _)
  have hseal:=W9 ho
  generalize (SN k 0 t).1=O at hz hx hseal
  rw [FN (by rfl),ZY]
  rcases hx with hx | ⟨v,hx,h0,h1,hA⟩
  ·rw [hx];rfl
  ·rw [hx]
   have hsz:=hA.size.resolve_left (by have:=Ob v;intro h;rw [h] at this;simp at this)
   simp only [Bool.not_true,cond_false,Bool.false_or]
   rw [w64_id (n:=(O.size:Int) - ((0+(IK v).length:Nat):Int)) (by omega) (by omega)]
   by_cases h3:v > (O.size:Int) - ((0+(IK v).length:Nat):Int)
   ·rw [TB (by simp;omega)]
    have e:(decide (v > 20000) || decide (v > (O.size:Int) - ((0+(IK v).length:Nat):Int)))=true:=by simp;omega
    rw [e];rfl
   ·rw [FN (by simp;omega),w64_id (n:=((0+(IK v).length:Nat):Int)+v) (by omega) (by omega),TB (by simp;omega)]
    have hes:(O.extract ((0+(IK v).length:Nat):Int).toNat (((0+(IK v).length:Nat):Int)+v).toNat).size=v.toNat:=by rw [ByteArray.size_extract];omega
    generalize hS:O.extract ((0+(IK v).length:Nat):Int).toNat (((0+(IK v).length:Nat):Int)+v).toNat=S at hes
    rw [Xy hk,Option.bind_some,WY]
    by_cases h4:v > 400
    ·have e1:decide ((S.size:Int) > 400)=true:=decide_eq_true (by omega)
     rw [e1,cond_true]
     by_cases h5:v > 20000
     ·have e:(decide (v > 20000) || decide (v > (O.size:Int) - ((0+(IK v).length:Nat):Int)))=true:=by simp;omega
      rw [e];rfl
     ·have e:(decide (v > 20000) || decide (v > (O.size:Int) - ((0+(IK v).length:Nat):Int)))=false:=by simp;omega
      rw [e,cond_false,e1];rfl
    ·have e1:decide ((S.size:Int) > 400)=false:=decide_eq_false (by omega)
     have e:(decide (v > 20000) || decide (v > (O.size:Int) - ((0+(IK v).length:Nat):Int)))=false:=by simp;omega
     have h2:=Em (l:=bs S) (by rw [bs_len];omega)
     have hl:=bs_len S
     have hm:maskOk 0 ((ofBytes (SY (bs S))).size:Int)=true:=by rw [Cm,ofBytes_size];omega
     have hfb:=Iq (VZ S)
     rw [e,cond_false,e1,cond_false,EZ,hm,cond_true,NM hfb,FN (by rfl),Jq,NM (fun x hx=>by
      rcases List.mem_append.1 hx with hx | hx
      ·exact Vb _ _ x hx
      ·exact Xa _ _ _ x hx)]
     have hiff:(NY (bs k) 0 (SY (bs S)) == bs t)=(SY (bs S) == bs O):=by
      rw [Bool.eq_iff_iff,beq_iff_eq,beq_iff_eq,←hseal]
      exact ⟨fun h=>GAG hfb (VZ O) h,fun h=>by rw [h]⟩
     rw [hiff]
     cases (SY (bs S) == bs O) <;> rfl
theorem law_FnWraps (x0:Unit):laws_FnWraps x0=some true:=by
 rw [laws_FnWraps,Xx,AAD,Option.bind_some]
 cases decide ((codeL.length:Int) > 1048576)
 ·rw [cond_false]
  obtain ⟨⟨key,s⟩,h1,g1⟩:=FAD
  obtain ⟨⟨k,u⟩,h2,g2,g3⟩:=YAG
  have g1:key.size≤100:=g1
  have g2:k.size≤100:=g2
  have g3:u.size≤1000:=g3
  have z:=JAA key s
  simp only [h1,h2,Option.bind_some,I9 (k:=key) (by omega),Xy (k:=key) (by omega),X9 (k:=key) (t:=(WY key s).1) (by omega) (by omega),X9 (k:=k) (t:=u) (by omega) (by omega),BAH (k:=k) (t:=u) (by omega) (by omega),I9 (k:=k) (by omega),beq_self_eq_true,Bool.not_true,cond_false,cond_true]
  have last:(bif !(Ea k u).2 then some true else some ((ByteArray.toList (WY k (Ea k u).1).1) == (ByteArray.toList u)))=some true:=by
   cases h:(Ea k u).2
   ·rfl
   ·rw [XAG h];simp
  rw [last]
  cases h:(WY key s).2
  ·rfl
  ·obtain ⟨e1,e2⟩:=WAG h
   have e3:((WY key s).1.size:Int).tmod 16=0:=by rw [Int.tmod_eq_emod_of_nonneg (by omega)];omega
   rw [e1,e3];simp
 ·rfl
end Go.Proofs.YtjfkbidckphneaaDoor.G
