/- The plain law of FnDefaults: whatever the arguments, it answers true. Conditions: what is read is in reach. Part 1 of 1. -/
import Derived.Test.YtjfkbidckphneaaDoorFFnDefaults
import Derived.Test.YtjfkbidckphneaaDoorOpens
import Derived.Test.YtjfkbidckphneaaDoorPBase
namespace Go.Proofs.YtjfkbidckphneaaDoor.G
open Go Go.Ev
set_option linter.unusedVariables false
set_option linter.unusedSimpArgs false
set_option linter.unusedSectionVars false
variable [PC]
theorem Xv (u:Unit):Bg u=some (decide ((codeL.length:Int) > 1048576)):=rfl
def bs (s:ByteArray):List Int:=s.data.toList.map fun b=>(b.toNat:Int)
theorem bs_len (s:ByteArray):(bs s).length=s.size:=by unfold bs;rw [List.length_map];rfl
theorem Yv {s:ByteArray} {n:Int} (h:n ∈ bs s):0≤n∧n≤255:=by
 unfold bs at h;rw [List.mem_map] at h;obtain ⟨b,_,rfl⟩:=h
 have:=b.toNat_lt;omega
theorem Dc (a b:ByteArray):bs (a++b)=bs a++bs b:=by simp [bs]
theorem Bq (s:ByteArray):ofBytes (bs s)=s:=by
 cases s;simp [ofBytes,bs,Function.comp_def]
theorem Ic {s t:ByteArray} (h:bs s=bs t):s=t:=by rw [←Bq s,h,Bq]
theorem WY {l:List Int} (h:∀ n,n ∈ l→0≤n∧n≤255):bs (ofBytes l)=l:=by
 simp only [bs,ofBytes,List.map_map]
 conv=>rhs;rw [←List.map_id l]
 apply List.map_congr_left
 intro n hn
 obtain ⟨h1,h2⟩:=h n hn
 simp only [Function.comp,UInt8.toNat_ofNat',id]
 omega
theorem Zv {s:ByteArray} {i:Nat} (h:i<s.size):bt s (i:Int)=(bs s)[i]'(by rw [bs_len];exact h):=by
 simp only [bt,Int.toNat_natCast,h,dite_true,bs,List.getElem_map]
 rfl
theorem U3 (s:ByteArray) (i:Int):0≤bt s i∧bt s i≤255:=by
 unfold bt;split
 ·have:=(s[i.toNat]).toNat_lt;omega
 ·omega
theorem Ya (s:ByteArray) (i j:Nat):bs (s.extract i j)=((bs s).take j).drop i:=by
 simp only [bs,ByteArray.data_extract,Array.toList_extract,List.extract_eq_take_drop,List.map_take,List.map_drop]
 rw [List.drop_take]
theorem TB {α:Type} {c:Bool} {a b:α} (h:c=true):(bif c then a else b)=a:=by rw [h];rfl
theorem CV {α:Type} {c:Bool} {a b:α} (h:c=false):(bif c then a else b)=b:=by rw [h];rfl
theorem Jc {s:ByteArray} {i:Nat} (h:i<s.size):bt s (i:Int)=(bs s).getD i 0:=by rw [Zv h,getD_at]
theorem V3 {s:ByteArray} {i:Int} {j:Nat} (e:i=(j:Int)) (h:j<s.size):bt s i=(bs s).getD j 0:=by rw [e,Jc h]
theorem Uh {α:Type} {a b:List α} {i:Nat} (h:i<a.length) (d:α):(a++b).getD i d=a.getD i d:=by simp [List.getD,List.getElem?_append_left h]
theorem Dq {α:Type} {a b:List α} {i:Nat} (h:a.length≤i) (d:α):(a++b).getD i d=b.getD (i - a.length) d:=by simp [List.getD,List.getElem?_append_right h]
theorem Vh {α:Type} {a b:List α} {x y:α} {i:Nat} (h:a.length=i):(a++x::b).set i y=a++y::b:=by
 rw [List.set_append_right _ _ (by omega),h,Nat.sub_self];rfl
theorem X3 {a b:Nat} (h:a=b):Nat.beq a b=true:=by subst h;exact Nat.beq_refl _
theorem Y3 {P:Int→Prop} (n:Int) (h:0≤n) (k:∀ m:Nat,n=(m:Int)→P (m:Int)):P n:=by
 have:=k n.toNat (by omega)
 rwa [show ((n.toNat:Nat):Int)=n by omega] at this
theorem I4:bs (⟨#[]⟩:ByteArray)=[]:=rfl
def RY (l:List Int):Prop:=∀ n,n ∈ l→0≤n∧n≤255
theorem SY {l:List Int} (h:RY l) (i:Nat):0≤l.getD i 0∧l.getD i 0≤255:=by
 by_cases hi:i<l.length
 ·rw [getD_at hi];exact h _ (List.getElem_mem hi)
 ·have:l.getD i 0=0:=by simp [List.getD,List.getElem?_eq_none (Nat.le_of_not_lt hi)]
  omega
theorem Lc (s:ByteArray):RY (bs s):=fun _ h=>Yv h
theorem Aw (s:ByteArray):bytesOf s=bs s:=rfl
theorem J4 {α:Type} {l:List α} {i:Nat} (h:i<l.length) (y d:α):(l.set i y).getD i d=y:=by simp [List.getD,h]
def Ok {α:Type} (x:Option α) (Q:α→Prop):Prop:=∃ a,x=some a∧Q a
theorem Ok.bind {α β:Type} {x:Option α} {f:α→Option β} {Q:α→Prop} {R:β→Prop} (h:Ok x Q) (k:∀ a,Q a→Ok (f a) R):Ok (x.bind f) R:=by
 obtain ⟨a,rfl,h⟩:=h;exact k a h
theorem Ok.cond {α:Type} {c:Bool} {a b:Option α} {R:α→Prop} (h1:c=true→Ok a R) (h2:c=false→Ok b R):Ok (bif c then a else b) R:=by
 cases c
 ·exact h2 rfl
 ·exact h1 rfl
theorem Ok.chk {α:Type} {c:Bool} {a:Option α} {R:α→Prop} (hc:c=true) (h1:Ok a R):Ok (bif c then a else none) R:=by rw [hc];exact h1
theorem Ok.ret {α:Type} {a:α} {R:α→Prop} (h:R a):Ok (some a) R:=⟨a,rfl,h⟩
theorem Ok.eq {α:Type} {x:Option α} {a:α} (h:x=some a):Ok x (fun b=>b=a):=⟨a,h,rfl⟩
theorem Ok.mono {α:Type} {x:Option α} {Q R:α→Prop} (h:Ok x Q) (k:∀ a,Q a→R a):Ok x R:=by obtain ⟨a,h1,h2⟩:=h;exact ⟨a,h1,k a h2⟩
def RV (c:SL01Cur):Prop:=0≤c.fI
theorem O4 (n:Int) : -9223372036854775808≤w64 n∧w64 n≤9223372036854775807:=by
 simp only [w64,IntKind.wrap,IntKind.signed,IntKind.bits]
 simp
 omega
theorem Wh (n:Int):0≤w64 ((BitVec.toNat (BitVec.ofInt (IntKind.bits IntKind.i64) n &&& BitVec.ofInt (IntKind.bits IntKind.i64) 255):Nat):Int)∧w64 ((BitVec.toNat (BitVec.ofInt (IntKind.bits IntKind.i64) n &&& BitVec.ofInt (IntKind.bits IntKind.i64) 255):Nat):Int)≤255:=by
 have h:(BitVec.ofInt (IntKind.bits IntKind.i64) n &&& BitVec.ofInt (IntKind.bits IntKind.i64) 255).toNat≤255:=by
  rw [BitVec.toNat_and]
  exact Nat.le_trans Nat.and_le_right (by decide)
 rw [w64_id (by omega) (by omega)]
 omega
theorem Fq:Ok (Ea ()) RV:=by
 have hl:codeL.length≤140737488351232:=PC.hl
 have key:∀ (j i m:Nat) (h:Int),i+j=codeL.length→Ok (Tc (m+j+1) (.c0 h (i:Int))) RV:=by
  intro j
  induction j with
  | zero=>
   intro i m h hi
   rw [Tc];simp only [Gg]
   rw [CV (by simp;omega)]
   exact Ok.ret (Int.le_refl 0)
  | succ j ih=>
   intro i m h hi
   have hw:w64 ((i:Int)+1)=((i+1:Nat):Int):=by rw [w64_id (by omega) (by omega)];rfl
   rw [show m+(j+1)+1=(m+j+1)+1 from rfl,Tc]
   simp only [Gg,hw]
   refine Ok.cond (fun _=>Ok.cond (fun _=>?_) fun _=>Ok.ret (Int.le_refl 0)) fun _=>Ok.ret (Int.le_refl 0)
   refine Ok.chk (by simp;omega) (Ok.chk (by rw [Int.toNat_natCast];exact Nat.ble_eq_true_of_le (by omega)) (ih (i+1) m _ (by omega)))
 obtain ⟨m,hm⟩:∃ m,gas=m+codeL.length+1:=⟨gas - (codeL.length+1),by have:=gas_lt (n:=codeL.length+1) (by omega);omega⟩
 rw [Ea,Ei,hm]
 exact key codeL.length 0 m _ (Nat.zero_add _)
theorem Mc {c:SL01Cur} (hc:RV c):Ok (PZ c) fun r=>0≤r.1∧r.1≤255∧RV r.2:=by
 have hl:codeL.length≤140737488351232:=PC.hl
 have hc:0≤c.fI:=hc
 rw [PZ,Gi]
 refine Ok.cond (fun h=>?_) fun h=>Ok.ret ⟨(Wh _).1,(Wh _).2,hc⟩
 rw [decide_eq_true_eq] at h
 refine Ok.chk (by simp;omega) (Ok.chk (Nat.ble_eq_true_of_le (by omega)) (Ok.ret ⟨(Wh _).1,(Wh _).2,?_⟩))
 show 0≤w64 (c.fI+1)
 rw [w64_id (by omega) (by omega)];omega
theorem tmod_lt {a n:Int} (ha:0≤a) (hn:0<n):0≤a.tmod n∧a.tmod n<n:=⟨Int.tmod_nonneg _ ha,Int.tmod_lt_of_pos _ hn⟩
theorem BZ {c:SL01Cur} {n:Int} (hc:RV c):Ok (LY c n) fun r=>(0≤r.1∧(0<n→r.1<n)∧(n≤0→r.1=0))∧RV r.2:=by
 rw [LY,Ji]
 refine Ok.cond (fun h=>?_) fun h=>?_
 ·rw [decide_eq_true_eq] at h
  exact Ok.ret ⟨⟨Int.le_refl 0,fun h2=>h2,fun _=>rfl⟩,hc⟩
 ·rw [decide_eq_false_iff_not] at h
  have hn:(!(n == 0))=true:=by simp;omega
  refine Ok.cond (fun _=>?_) fun _=>?_
  ·refine Ok.bind (Mc hc) fun a ha=>Ok.chk hn (Ok.ret ?_)
   have:=tmod_lt ha.1 (show 0<n by omega)
   exact ⟨⟨this.1,fun _=>this.2,fun h2=>by omega⟩,ha.2.2⟩
  ·refine Ok.bind (Mc hc) fun a ha=>Ok.bind (Mc ha.2.2) fun b hb=>Ok.bind (Mc hb.2.2) fun d hd=>Ok.bind (Mc hd.2.2) fun e he=>Ok.chk hn (Ok.ret ?_)
   obtain ⟨a1,a2,_⟩:=ha
   obtain ⟨b1,b2,_⟩:=hb
   obtain ⟨d1,d2,_⟩:=hd
   obtain ⟨e1,e2,e3⟩:=he
   have hw:w64 (w64 (w64 (w64 (a.1*16777216)+w64 (b.1*65536))+w64 (d.1*256))+e.1)=a.1*16777216+b.1*65536+d.1*256+e.1:=by
    rw [w64_id (n:=a.1*16777216) (by omega) (by omega),w64_id (n:=b.1*65536) (by omega) (by omega),w64_id (n:=d.1*256) (by omega) (by omega),w64_id (n:=a.1*16777216+b.1*65536) (by omega) (by omega),w64_id (n:=a.1*16777216+b.1*65536+d.1*256) (by omega) (by omega),w64_id (by omega) (by omega)]
   have:=tmod_lt (show 0≤a.1*16777216+b.1*65536+d.1*256+e.1 by omega) (show 0<n by omega)
   simp only [hw]
   exact ⟨⟨this.1,fun _=>this.2,fun h2=>by omega⟩,e3⟩
theorem Nc {c:SL01Cur} {n:Int} (hc:RV c):Ok (RZ c n) fun r=>RV r.2:=by
 rw [RZ,Oi]
 exact Ok.bind (BZ hc) fun a ha=>Ok.ret ha.2
theorem Xh {c:SL01Cur} {l:List Int} (hc:RV c) (hl:0<l.length):Ok (Ja c l) fun r=>r.1 ∈ l∧RV r.2:=by
 rw [Ja,Si]
 refine Ok.bind (BZ hc) fun a ha=>?_
 have h1:=ha.1.2.1 (by omega)
 refine Ok.chk (by simp;omega) (Ok.ret ⟨?_,ha.2⟩)
 rw [getD_at (by omega)];exact List.getElem_mem _
theorem Gq {c:SL01Cur} {n:Int} (hc:RV c):Ok (Yc c n) fun r=>RV r.2:=by
 rw [Yc,Ui]
 refine Ok.bind (Nc hc) fun a ha=>Ok.cond (fun _=>?_) fun _=>?_
 ·exact Ok.bind (Xh ha (Nat.succ_pos _)) fun r hr=>Ok.ret hr.2
 ·exact Ok.bind (BZ ha) fun r hr=>Ok.ret hr.2
theorem Dw {n:Nat} {x:Int} (h:n≤1000000000):XZ (n:Int) x=some (ofBytes (List.replicate n x)):=by
 have key:∀ (j i m:Nat),i+j=n→Bd (m+j+1) (.c0 (n:Int) x (i:Int) (List.replicate i x++List.replicate (n - i) 0))=some (ofBytes (List.replicate n x)):=by
  intro j
  induction j with
  | zero=>
   intro i m hi
   obtain rfl:i=n:=by omega
   rw [Bd]
   simp only [Jg]
   rw [CV (by simp),Nat.sub_self,List.replicate_zero,List.append_nil]
  | succ j ih=>
   intro i m hi
   have e:w64 ((i:Int)+1)=((i+1:Nat):Int):=by rw [w64_id (by omega) (by omega)];rfl
   rw [show m+(j+1)+1=(m+j+1)+1 by omega,Bd]
   simp only [Jg,e,Int.toNat_natCast]
   rw [TB (by simp;omega),TB (by simp;omega),show n - i=(n - (i+1))+1 by omega,List.replicate_succ,Vh (by simp)]
   have h2:=ih (i+1) m (by omega)
   rw [List.replicate_succ' (n:=i),List.append_assoc] at h2
   exact h2
 obtain ⟨m,hm⟩:∃ m,gas=m+n+1:=⟨gas - (n+1),by have:=gas_lt (n:=n+1) (by omega);omega⟩
 have h0:=key n 0 m (by omega)
 rw [List.replicate_zero,List.nil_append,Nat.sub_zero] at h0
 rw [XZ,Wi,TB (by simp;omega),hm]
 exact h0
theorem Hq {n x:Int} (h0:0≤n) (h1:n≤1000000000):Ok (XZ n x) fun r=>(r.size:Int)=n:=by
 have h:=Dw (n:=n.toNat) (x:=x) (by omega)
 rw [show ((n.toNat:Nat):Int)=n by omega] at h
 exact ⟨_,h,by show ((ofBytes (List.replicate n.toNat x)).size:Int)=n;rw [ofBytes_size,List.length_replicate];omega⟩
theorem Iq {c:SL01Cur} {n:Int} (hc:RV c) (h0:0≤n):Ok (La c n) fun r=>(r.1.size:Int)=min n 5000∧RV r.2:=by
 have key:∀ (j i m:Nat) (N:Nat) (a b:Int) (out:List Int),i+j=N→N≤5000→out.length=i→0≤a→Ok (Qb (m+j+1) (.c0 (N:Int) (i:Int) a b out)) fun r=>r.1.size=N∧RV r.2:=by
  intro j
  induction j with
  | zero=>
   intro i m N a b out hi hN ho ha
   rw [Qb];simp only [Pg]
   rw [CV (by simp;omega)]
   exact Ok.ret ⟨by rw [ofBytes_size];omega,ha⟩
  | succ j ih=>
   intro i m N a b out hi hN ho ha
   have hw:w64 ((i:Int)+1)=((i+1:Nat):Int):=by rw [w64_id (by omega) (by omega)];rfl
   rw [show m+(j+1)+1=(m+j+1)+1 from rfl,Qb]
   simp only [Pg,hw]
   rw [TB (by simp;omega)]
   exact Ok.bind (Mc (c:=⟨(),a,b⟩) ha) fun r hr=>Ok.chk (by simp;omega) (ih (i+1) m N _ _ _ (by omega) hN (by simp [ho]) hr.2.2)
 rw [La,Xi]
 have run:∀ N:Nat,N≤5000→Ok (Qb gas (.c0 (N:Int) 0 c.fI c.fH [])) fun r=>r.1.size=N∧RV r.2:=fun N hN=>by
  obtain ⟨m,hm⟩:∃ m,gas=m+N+1:=⟨gas - (N+1),by have:=gas_lt (n:=N+1) (by omega);omega⟩
  rw [hm]
  exact key N 0 m N _ _ [] (Nat.zero_add _) hN rfl hc
 refine Ok.cond (fun h=>?_) fun h=>?_
 ·rw [decide_eq_true_eq] at h
  exact (run 5000 (Nat.le_refl _)).mono fun r hr=>⟨by omega,hr.2⟩
 ·rw [decide_eq_false_iff_not] at h
  have:=run n.toNat (by omega)
  rw [show ((n.toNat:Nat):Int)=n by omega] at this
  exact this.mono fun r hr=>⟨by omega,hr.2⟩
theorem Ew:Ok (Jd ()) fun r=>r.2.size≤5000:=by
 rw [Jd,Zi]
 refine Ok.bind Fq fun c hc=>Ok.bind (Nc hc) fun a ha=>Ok.cond (fun _=>?_) fun _=>?_
 ·refine Ok.bind (Gq ha) fun b hb=>Ok.bind (BZ hb) fun d hd=>?_
  have h1:=hd.1.2.1 (by omega)
  have h0:=hd.1.1
  have hw:w64 (100+d.1)=100+d.1:=w64_id (by omega) (by omega)
  rw [hw]
  exact Ok.bind (Hq (by omega) (by omega)) fun s hs=>Ok.ret (by show s.size≤5000;omega)
 ·refine Ok.bind (Gq ha) fun b hb=>Ok.bind (BZ hb) fun d hd=>Ok.bind (Iq hd.2 hd.1.1) fun s hs=>Ok.ret ?_
  show s.1.size≤5000
  have:=hs.1;omega
theorem Gw {n:Nat} (h:n≤1000000000):Ld (n:Int)=some (ofBytes (List.replicate n 0)):=by
 simp only [Ld,Cj,Int.toNat_natCast]
 rw [TB (by simp;omega)]
theorem Za {n:Int}:w32 n=n % 4294967296:=by
 simp only [w32,IntKind.wrap,IntKind.signed,IntKind.bits]
 simp
theorem FZ {n:Int} (h1:0≤n) (h2:n<4294967296):w32 n=n:=by rw [Za];omega
def R32 (n:Int):Prop:=0≤n∧n<4294967296
theorem PY (n:Int):R32 (w32 n):=by unfold R32;rw [Za];omega
theorem U4 {n:Int} (h:0≤n∧n≤255):R32 n:=by unfold R32;omega
def xr (x y:Int):Int:=w32 (((BitVec.toNat ((BitVec.ofInt (IntKind.bits IntKind.u32) x) ^^^ (BitVec.ofInt (IntKind.bits IntKind.u32) y))):Nat):Int)
def an (x y:Int):Int:=w32 (((BitVec.toNat ((BitVec.ofInt (IntKind.bits IntKind.u32) x) &&& (BitVec.ofInt (IntKind.bits IntKind.u32) y))):Nat):Int)
def Xf (x y:Int):Int:=w32 (((BitVec.toNat ((BitVec.ofInt (IntKind.bits IntKind.u32) x) ||| (BitVec.ofInt (IntKind.bits IntKind.u32) y))):Nat):Int)
theorem Cb (x y:Int):w32 (((BitVec.toNat ((BitVec.ofInt (IntKind.bits IntKind.u32) x) ^^^ (BitVec.ofInt (IntKind.bits IntKind.u32) y))):Nat):Int)=xr x y:=rfl
theorem Jq (x y:Int):w32 (((BitVec.toNat ((BitVec.ofInt (IntKind.bits IntKind.u32) x) &&& (BitVec.ofInt (IntKind.bits IntKind.u32) y))):Nat):Int)=an x y:=rfl
theorem Kq (x y:Int):w32 (((BitVec.toNat ((BitVec.ofInt (IntKind.bits IntKind.u32) x) ||| (BitVec.ofInt (IntKind.bits IntKind.u32) y))):Nat):Int)=Xf x y:=rfl
theorem V4 (x y:Int):R32 (xr x y):=PY _
theorem X4 (x y:Int):R32 (an x y):=PY _
theorem Nq {a b:Nat} {s:Nat} (hb:b<2 ^ s) (ha:a*2 ^ s<4294967296) (hs:b<4294967296):Xf ((a*2 ^ s:Nat):Int) (b:Int)=((a*2 ^ s+b:Nat):Int):=by
 have e:a*2 ^ s ||| b=a*2 ^ s+b:=by
  have:=Nat.shiftLeft_add_eq_or_of_lt hb a
  rw [Nat.shiftLeft_eq] at this
  exact this.symm
 unfold Xf
 have h3:a*2 ^ s ||| b<2 ^ 32:=Nat.or_lt_two_pow (by omega) (by omega)
 rw [BitVec.toNat_or]
 show w32 (((BitVec.ofInt 32 _).toNat ||| (BitVec.ofInt 32 _).toNat:Nat):Int)=_
 rw [BitVec.ofInt_natCast,BitVec.ofInt_natCast,BitVec.toNat_ofNat,BitVec.toNat_ofNat,Nat.mod_eq_of_lt (by omega),Nat.mod_eq_of_lt (by omega),e]
 rw [e] at h3
 exact FZ (by omega) (by omega)
theorem Hw {e:Int} (h:R32 e):xr (ite ((IntKind.signed IntKind.u32)=true) (-(1:Int)) (IntKind.max IntKind.u32)) e=w32 (4294967295 - e):=by
 obtain ⟨h1,h2⟩:=h
 obtain ⟨n,rfl⟩:∃ n:Nat,e=(n:Int):=⟨e.toNat,by omega⟩
 have hn:n<4294967296:=by omega
 have e1:(ite ((IntKind.signed IntKind.u32)=true) (-(1:Int)) (IntKind.max IntKind.u32))=4294967295:=by decide
 rw [e1]
 unfold xr
 show w32 (((BitVec.ofInt 32 4294967295 ^^^ BitVec.ofInt 32 (n:Int)).toNat:Nat):Int)=_
 have e2:BitVec.ofInt 32 4294967295=BitVec.allOnes 32:=by decide
 rw [e2,BitVec.ofInt_natCast,BitVec.allOnes_xor,BitVec.toNat_not,BitVec.toNat_ofNat]
 rw [Za,Za]
 omega
def rt (low high x:Int):Int:=x / low+x % low*high
theorem Iw {low high x:Int} (h:R32 x) (hl:0<low) (hh:0<high) (hlh:low*high=4294967296):R32 (rt low high x):=by
 unfold R32 rt at *
 have h1:0≤x / low:=Int.ediv_nonneg h.1 (by omega)
 have h2:0≤x % low:=Int.emod_nonneg _ (by omega)
 have h3:x % low<low:=Int.emod_lt_of_pos _ hl
 have h4:x / low<high:=Int.ediv_lt_of_lt_mul hl (by rw [Int.mul_comm,hlh];exact h.2)
 have h5:0≤x % low*high:=Int.mul_nonneg h2 (by omega)
 have h6:x % low*high≤(low - 1)*high:=Int.mul_le_mul_of_nonneg_right (by omega) (by omega)
 have h7:(low - 1)*high=low*high - high:=by rw [Int.sub_mul,Int.one_mul]
 omega
theorem Jw {x:Int} (h:R32 x) (n:Nat) (hn:0<n) (hn2:n<32):Xf (w32 (x*2 ^ (32 - n))) (x / 2 ^ n)=rt (2 ^ n) (2 ^ (32 - n)) x:=by
 obtain ⟨h1,h2⟩:=h
 obtain ⟨y,rfl⟩:∃ y:Nat,x=(y:Int):=⟨x.toNat,by omega⟩
 have hy:y<4294967296:=by omega
 have e0:(4294967296:Nat)=2 ^ n*2 ^ (32 - n):=by rw [←Nat.pow_add,show n+(32 - n)=32 by omega]
 have e1:w32 ((y:Int)*2 ^ (32 - n))=((y % 2 ^ n*2 ^ (32 - n):Nat):Int):=by
  rw [Za]
  have h5:((y:Int)*2 ^ (32 - n))=((y*2 ^ (32 - n):Nat):Int):=by push_cast;rfl
  have h6:y*2 ^ (32 - n) % 4294967296=y % 2 ^ n*2 ^ (32 - n):=by rw [e0,Nat.mul_mod_mul_right]
  rw [h5,←h6]
  omega
 have e2:((y:Int) / 2 ^ n)=((y / 2 ^ n:Nat):Int):=by push_cast;rfl
 have hp:0<2 ^ n:=Nat.two_pow_pos n
 have hp2:0<2 ^ (32 - n):=Nat.two_pow_pos _
 have hm:y % 2 ^ n<2 ^ n:=Nat.mod_lt _ hp
 have hd:y / 2 ^ n<2 ^ (32 - n):=Nat.div_lt_of_lt_mul (by rw [←e0];exact hy)
 rw [e1,e2,Nq hd (by rw [e0];exact Nat.mul_lt_mul_of_pos_right hm hp2) (Nat.lt_of_le_of_lt (Nat.div_le_self _ _) hy)]
 unfold rt
 push_cast
 omega
def Oq (x:Int):Int:=xr (xr (rt 128 33554432 x) (rt 262144 16384 x)) (x / 8)
def sg1 (x:Int):Int:=xr (xr (rt 131072 32768 x) (rt 524288 8192 x)) (x / 1024)
def Pq (x:Int):Int:=xr (xr (rt 64 67108864 x) (rt 2048 2097152 x)) (rt 33554432 128 x)
def Qq (x:Int):Int:=xr (xr (rt 4 1073741824 x) (rt 8192 524288 x)) (rt 4194304 1024 x)
def Kw (w:List Int) (t:Nat):Int:=w32 (w32 (w32 (sg1 (w.getD (t - 2) 0)+w.getD (t - 7) 0)+Oq (w.getD (t - 15) 0))+w.getD (t - 16) 0)
def sched (w:List Int):Nat→List Int
 | 0=>w
 | n+1=>sched w n++[Kw (sched w n) (16+n)]
theorem Yf {w:List Int} (h:w.length=16) (n:Nat):(sched w n).length=16+n:=by
 induction n with
 | zero=>exact h
 | succ n ih=>simp [sched,ih];omega
theorem Yh {w:List Int} (h:∀ x ∈ w,R32 x) (n:Nat):∀ x ∈ sched w n,R32 x:=by
 induction n with
 | zero=>exact h
 | succ n ih=>
  intro x hx
  rw [sched,List.mem_append,List.mem_singleton] at hx
  rcases hx with hx | rfl
  ·exact ih x hx
  ·exact PY _
theorem Zf {l:List Int} (h:∀ x ∈ l,R32 x) (i:Nat):R32 (l.getD i 0):=by
 by_cases hi:i<l.length
 ·rw [getD_at hi];exact h _ (List.getElem_mem hi)
 ·have:l.getD i 0=0:=by simp [List.getD,List.getElem?_eq_none (Nat.le_of_not_lt hi)]
  rw [this];unfold R32;omega
structure Reg where
 a:Int
 b:Int
 c:Int
 d:Int
 e:Int
 f:Int
 g:Int
 h:Int
def Reg.ok (r:Reg):Prop:=R32 r.a∧R32 r.b∧R32 r.c∧R32 r.d∧R32 r.e∧R32 r.f∧R32 r.g∧R32 r.h
def Reg.l (r:Reg):List Int:=[r.a,r.b,r.c,r.d,r.e,r.f,r.g,r.h]
theorem Reg.Ag (r:Reg):r.l.length=8:=rfl
def t1 (r:Reg) (k w:Int):Int:=w32 (w32 (w32 (w32 (r.h+Pq r.e)+xr (an r.e r.f) (an (w32 (4294967295 - r.e)) r.g))+k)+w)
def t2 (r:Reg):Int:=w32 (Qq r.a+xr (xr (an r.a r.b) (an r.a r.c)) (an r.b r.c))
def GZ (r:Reg) (k w:Int):Reg:=⟨w32 (t1 r k w+t2 r),r.a,r.b,r.c,w32 (r.d+t1 r k w),r.e,r.f,r.g⟩
theorem Nw {r:Reg} (h:r.ok) (k w:Int):(GZ r k w).ok:=⟨PY _,h.1,h.2.1,h.2.2.1,PY _,h.2.2.2.2.1,h.2.2.2.2.2.1,h.2.2.2.2.2.2.1⟩
def KY (K W:List Int) (r:Reg):Nat→Reg
 | 0=>r
 | n+1=>GZ (KY K W r n) (K.getD n 0) (W.getD n 0)
theorem Rq (K W:List Int) {r:Reg} (h:r.ok) (n:Nat):(KY K W r n).ok:=by
 induction n with
 | zero=>exact h
 | succ n ih=>exact Nw ih _ _
def Eb (s r:Reg):Reg:=⟨w32 (s.a+r.a),w32 (s.b+r.b),w32 (s.c+r.c),w32 (s.d+r.d),w32 (s.e+r.e),w32 (s.f+r.f),w32 (s.g+r.g),w32 (s.h+r.h)⟩
theorem Qw (s r:Reg):(Eb s r).ok:=⟨PY _,PY _,PY _,PY _,PY _,PY _,PY _,PY _⟩
def keysL:List Int:=[1116352408,1899447441,3049323471,3921009573,961987163,1508970993,2453635748,2870763221,3624381080,310598401,607225278,1426881987,1925078388,2162078206,2614888103,3248222580,3835390401,4022224774,264347078,604807628,770255983,1249150122,1555081692,1996064986,2554220882,2821834349,2952996808,3210313671,3336571891,3584528711,113926993,338241895,666307205,773529912,1294757372,1396182291,1695183700,1986661051,2177026350,2456956037,2730485921,2820302411,3259730800,3345764771,3516065817,3600352804,4094571909,275423344,430227734,506948616,659060556,883997877,958139571,1322822218,1537002063,1747873779,1955562222,2024104815,2227730452,2361852424,2428436474,2756734187,3204031479,3329325298]
def be4 (a b c d:Int):Int:=a*16777216+b*65536+c*256+d
def wordAt (l:List Int) (i:Nat):Int:=be4 (l.getD (4*i) 0) (l.getD (4*i+1) 0) (l.getD (4*i+2) 0) (l.getD (4*i+3) 0)
def FN (l:List Int) (n:Nat):List Int:=(List.range n).map (wordAt l)
theorem VZ (l:List Int) (n:Nat):(FN l n).length=n:=by simp [FN]
theorem Tq (l:List Int) (n:Nat):FN l (n+1)=FN l n++[wordAt l n]:=by simp [FN,List.range_succ]
theorem Rw {a b c d:Int} (ha:0≤a∧a≤255) (hb:0≤b∧b≤255) (hc:0≤c∧c≤255) (hd:0≤d∧d≤255):R32 (be4 a b c d):=by unfold R32 be4;omega
theorem Uw {l:List Int} (h:RY l) (i:Nat):R32 (wordAt l i):=Rw (SY h _) (SY h _) (SY h _) (SY h _)
theorem Jm {l:List Int} (h:RY l) (n:Nat):∀ x ∈ FN l n,R32 x:=by
 intro x hx
 simp only [FN,List.mem_map] at hx
 obtain ⟨i,_,rfl⟩:=hx
 exact Uw h i
def comp (s:Reg) (b:List Int):Reg:=Eb s (KY keysL (sched (FN b 16) 48) s 64)
theorem Vq (s:Reg) (b:List Int):(comp s b).ok:=Qw _ _
def comps:Nat→Reg→List Int→Reg
 | 0,s,_=>s
 | n+1,s,b=>comps n (comp s (b.take 64)) (b.drop 64)
theorem Fb {s:Reg} (h:s.ok):∀ (n:Nat) (b:List Int),(comps n s b).ok:=by
 intro n
 induction n generalizing s with
 | zero=>intro b;exact h
 | succ n ih=>intro b;exact ih (Vq _ _) _
theorem Wq (n m:Nat):∀ (s:Reg) (b:List Int),comps (n+m) s b=comps m (comps n s b) (b.drop (64*n)):=by
 induction n with
 | zero=>intro s b;simp [comps]
 | succ n ih=>
  intro s b
  rw [Nat.add_right_comm,comps,comps,ih,List.drop_drop]
  congr 2
  omega
theorem Vw (n:Nat):∀ (s:Reg) (b c:List Int),64*n≤b.length→comps n s (b++c)=comps n s b:=by
 induction n with
 | zero=>intro s b c _;rfl
 | succ n ih=>
  intro s b c h
  rw [comps,comps,List.take_append_of_le_length (by omega),List.drop_append_of_le_length (by omega),ih _ _ _ (by simp;omega)]
def four (x:Int):List Int:=[x / 16777216,x / 65536 % 256,x / 256 % 256,x % 256]
theorem Zh {x:Int} (h:R32 x):RY (four x):=by
 intro n hn
 unfold R32 at h
 simp only [four,List.mem_cons,List.not_mem_nil,or_false] at hn
 rcases hn with rfl | rfl | rfl | rfl <;> omega
def IK (ws:List Int):List Int:=ws.flatMap four
theorem Oc (ws:List Int):(IK ws).length=4*ws.length:=by
 induction ws with
 | nil=>rfl
 | cons w ws ih=>
  rw [show IK (w::ws)=four w++IK ws from rfl,List.length_append,ih]
  simp only [four,List.length_cons,List.length_nil];omega
theorem Lm {ws:List Int} (h:∀ x ∈ ws,R32 x):RY (IK ws):=by
 intro n hn
 simp only [IK,List.mem_flatMap] at hn
 obtain ⟨x,hx,hn⟩:=hn
 exact Zh (h x hx) n hn
theorem Xq (a b:List Int):IK (a++b)=IK a++IK b:=by simp [IK]
theorem Xw {x:Int} (h:R32 x):be4 (x / 16777216) (x / 65536 % 256) (x / 256 % 256) (x % 256)=x:=by unfold R32 at h;unfold be4;omega
theorem Yq:∀ {ws:List Int} (_:∀ x ∈ ws,R32 x) {i:Nat} (hi:i<ws.length),wordAt (IK ws) i=ws[i]
 | w::ws,h,0,_=>by
  have:=Xw (h w (List.mem_cons_self ..))
  simpa [wordAt,IK,four] using this
 | w::ws,h,i+1,hi=>by
  have ih:=Yq (ws:=ws) (fun x hx=>h x (List.mem_cons_of_mem _ hx)) (i:=i) (by simpa using hi)
  rw [List.getElem_cons_succ,←ih]
  have e:∀ j,(IK (w::ws)).getD (j+4) 0=(IK ws).getD j 0:=fun j=>by simp [IK,four,List.getD]
  unfold wordAt
  rw [show 4*(i+1)=4*i+4 by omega,show 4*i+4+1=(4*i+1)+4 by omega,show 4*i+4+2=(4*i+2)+4 by omega,show 4*i+4+3=(4*i+3)+4 by omega,e,e,e,e]
theorem Yw {ws:List Int} (h:∀ x ∈ ws,R32 x):FN (IK ws) ws.length=ws:=by
 apply List.ext_getElem
 ·rw [VZ]
 ·intro i h1 h2
  simp only [FN,List.getElem_map,List.getElem_range]
  exact Yq h h2
theorem Reg.Ib {r:Reg} (h:r.ok):∀ x ∈ r.l,R32 x:=by
 intro x hx
 simp only [Reg.l,List.mem_cons,List.not_mem_nil,or_false] at hx
 obtain ⟨h1,h2,h3,h4,h5,h6,h7,h8⟩:=h
 rcases hx with rfl | rfl | rfl | rfl | rfl | rfl | rfl | rfl <;> assumption
def XY:Reg:=⟨1779033703,3144134277,1013904242,2773480762,1359893119,2600822924,528734635,1541459225⟩
theorem Ba:XY.ok:=by unfold Reg.ok R32 XY;decide
def IZ (n:Int):List Int:=[0,0,0,n / 4294967296 % 256,n / 16777216 % 256,n / 65536 % 256,n / 256 % 256,n % 256]
def SN (n:Nat):List Int:=128::(List.replicate ((119 - n % 64) % 64) 0++IZ (8*(n:Int)))
theorem Ai (n:Nat):(SN n).length=9+(119 - n % 64) % 64:=by simp [SN,IZ];omega
theorem Zw (n:Nat):(n+(SN n).length) % 64=0:=by rw [Ai];omega
theorem Om (n:Nat):RY (SN n):=by
 intro x hx
 simp only [SN,IZ,List.mem_cons,List.mem_append,List.mem_replicate,List.not_mem_nil,or_false] at hx
 omega
def Jb (b:List Int):List Int:=IK (comps ((b.length+(SN b.length).length) / 64) XY (b++SN b.length)).l
def CZ (s:ByteArray):ByteArray:=ofBytes (Jb (bs s))
theorem Dx (b:List Int):(Jb b).length=32:=by rw [Jb,Oc];rfl
theorem Gx (b:List Int):RY (Jb b):=Lm (Reg.Ib (Fb Ba _ _))
theorem Pm (s:ByteArray):(CZ s).size=32:=by rw [CZ,ofBytes_size,Dx]
theorem Y4 (s:ByteArray):bs (CZ s)=Jb (bs s):=WY (Gx _)
theorem Zq {x:Int} (h:R32 x):UZ x=some (ofBytes (four x)):=by
 obtain ⟨h1,h2⟩:=h
 have e1:Int.fdiv x (2 ^ (Min.min (24:Int).toNat (IntKind.bits IntKind.u32)))=x / 16777216:=Int.fdiv_eq_ediv_of_nonneg _ (by decide)
 have e2:Int.fdiv x (2 ^ (Min.min (16:Int).toNat (IntKind.bits IntKind.u32)))=x / 65536:=Int.fdiv_eq_ediv_of_nonneg _ (by decide)
 have e3:Int.fdiv x (2 ^ (Min.min (8:Int).toNat (IntKind.bits IntKind.u32)))=x / 256:=Int.fdiv_eq_ediv_of_nonneg _ (by decide)
 simp only [UZ,Ej,e1,e2,e3,w8_mod,four]
 rw [show x / 16777216 % 256=x / 16777216 by omega]
theorem Ox {n:Nat} (h:n<1099511627776):Qd (n:Int)=some (ofBytes (IZ (n:Int))):=by
 have e1:Int.fdiv (n:Int) (2 ^ (Min.min (32:Int).toNat (IntKind.bits IntKind.i64)))=(n:Int) / 4294967296:=Int.fdiv_eq_ediv_of_nonneg _ (by decide)
 simp only [Qd,Ij,e1,Zq (PY _),Option.bind_some]
 rw [TB (by rw [ofBytes_size,ofBytes_size];simp [four])]
 congr 1
 apply Ic
 rw [Dc,WY (Zh (PY _)),WY (Zh (PY _)),WY (fun x hx=>by
  simp only [IZ,List.mem_cons,List.not_mem_nil,or_false] at hx
  omega)]
 simp only [four,IZ,Za,List.cons_append,List.nil_append,List.cons.injEq,and_true]
 omega
theorem Px {n:Nat} (h:n≤100000000000):Td (n:Int)=some (ofBytes (SN n)):=by
 have e1:(w64 (119 - ((n:Int).tmod 64))).tmod 64=(((119 - n % 64) % 64:Nat):Int):=by
  have a:(n:Int).tmod 64=(n:Int) % 64:=Int.tmod_eq_emod_of_nonneg (by omega)
  rw [a,w64_id (by omega) (by omega),Int.tmod_eq_emod_of_nonneg (by omega)]
  omega
 have e2:w64 (8*(n:Int))=((8*n:Nat):Int):=by rw [w64_id (by omega) (by omega)];omega
 have h0:(⟨#[128]⟩:ByteArray).size=1:=rfl
 simp only [Td,Lj,e1,e2,Gw (n:=(119 - n % 64) % 64) (by omega),Ox (n:=8*n) (by omega),Option.bind_some]
 rw [TB (by rw [ofBytes_size];simp [h0];omega),TB (by rw [ByteArray.size_append,ofBytes_size,ofBytes_size];simp [h0,IZ];omega)]
 congr 1
 apply Ic
 have hb:RY (List.replicate ((119 - n % 64) % 64) (0:Int)):=fun x hx=>by
  have:=List.eq_of_mem_replicate hx;omega
 have hb2:RY (IZ ((8*n:Nat):Int)):=fun x hx=>by
  simp only [IZ,List.mem_cons,List.not_mem_nil,or_false] at hx
  omega
 rw [Dc,Dc,WY hb,WY hb2,WY (Om n),SN]
 have e3:bs (⟨#[128]⟩:ByteArray)=[128]:=rfl
 rw [e3]
 simp
theorem Qx {x:Int} (h:R32 x) (n:Nat) (hn:0<n) (hn2:n<32) (k:Int) (hk:wu64 (((BitVec.toNat ((BitVec.ofInt (IntKind.bits IntKind.u64) (wu64 k)) &&& (BitVec.ofInt (IntKind.bits IntKind.u64) (31:Int)))):Nat):Int)=((32 - n:Nat):Int))
  (hk2:wu64 (32 - ((32 - n:Nat):Int))=(n:Int)):Ud x k=some (rt (2 ^ n) (2 ^ (32 - n)) x):=by
 have e1:Min.min ((32 - n:Nat):Int).toNat (IntKind.bits IntKind.u32)=32 - n:=by
  show Min.min ((32 - n:Nat):Int).toNat 32=_
  omega
 have e2:Min.min (n:Int).toNat (IntKind.bits IntKind.u32)=n:=by
  show Min.min (n:Int).toNat 32=_
  omega
 have e3:Int.fdiv x (2 ^ n)=x / 2 ^ n:=Int.fdiv_eq_ediv_of_nonneg _ (Int.le_of_lt (Int.pow_pos (by omega)))
 simp only [Ud,Oj,hk,hk2,e1,e2,e3]
 rw [show decide ((0:Int)≤(n:Int))=true from decide_eq_true (by omega)]
 simp only [cond_true,Kq]
 rw [Jw h n hn hn2]
theorem MZ {x:Int} (h:R32 x) (n:Nat) (hn:0<n) (hn2:n<32) (hk:wu64 (((BitVec.toNat ((BitVec.ofInt (IntKind.bits IntKind.u64) (wu64 (w64 (0 - (n:Int))))) &&& (BitVec.ofInt (IntKind.bits IntKind.u64) (31:Int)))):Nat):Int)=((32 - n:Nat):Int))
  (hk2:wu64 (32 - ((32 - n:Nat):Int))=(n:Int)):JY x (n:Int)=some (rt (2 ^ n) (2 ^ (32 - n)) x):=by
 simp only [JY,Pj,Qx h n hn hn2 _ hk hk2,Option.bind_some]
theorem Rx {x:Int} (h:R32 x):JY x 2=some (rt 4 1073741824 x):=MZ h 2 (by decide) (by decide) (by decide) (by decide)
theorem Ux {x:Int} (h:R32 x):JY x 13=some (rt 8192 524288 x):=MZ h 13 (by decide) (by decide) (by decide) (by decide)
theorem Vx {x:Int} (h:R32 x):JY x 22=some (rt 4194304 1024 x):=MZ h 22 (by decide) (by decide) (by decide) (by decide)
theorem Wx {x:Int} (h:R32 x):JY x 6=some (rt 64 67108864 x):=MZ h 6 (by decide) (by decide) (by decide) (by decide)
theorem Xx {x:Int} (h:R32 x):JY x 11=some (rt 2048 2097152 x):=MZ h 11 (by decide) (by decide) (by decide) (by decide)
theorem Yx {x:Int} (h:R32 x):JY x 25=some (rt 33554432 128 x):=MZ h 25 (by decide) (by decide) (by decide) (by decide)
theorem Zx {x:Int} (h:R32 x):JY x 7=some (rt 128 33554432 x):=MZ h 7 (by decide) (by decide) (by decide) (by decide)
theorem Dy {x:Int} (h:R32 x):JY x 18=some (rt 262144 16384 x):=MZ h 18 (by decide) (by decide) (by decide) (by decide)
theorem Ey {x:Int} (h:R32 x):JY x 17=some (rt 131072 32768 x):=MZ h 17 (by decide) (by decide) (by decide) (by decide)
theorem Gy {x:Int} (h:R32 x):JY x 19=some (rt 524288 8192 x):=MZ h 19 (by decide) (by decide) (by decide) (by decide)
theorem Hy {a b:Int} (ha:0≤a∧a<16777216) (hb:0≤b∧b≤255):Xf (w32 (a*256)) (w32 b)=a*256+b:=by
 obtain ⟨x,rfl⟩:∃ x:Nat,a=(x:Int):=⟨a.toNat,by omega⟩
 obtain ⟨y,rfl⟩:∃ y:Nat,b=(y:Int):=⟨b.toNat,by omega⟩
 rw [FZ (by omega) (by omega),FZ (by omega) (by omega)]
 have:=Nq (a:=x) (b:=y) (s:=8) (by omega) (by omega) (by omega)
 have e:((x*2 ^ 8:Nat):Int)=(x:Int)*256:=by omega
 rw [Int.natCast_add,e] at this
 exact this
def ZY (l:List Int) (i:Nat):Nat→Int
 | 0=>0
 | k+1=>ZY l i k*256+l.getD (4*i+k) 0
theorem Iy (l:List Int) (i:Nat):ZY l i 4=wordAt l i:=by
 simp only [ZY,wordAt,be4,Nat.add_zero]
 omega
theorem Jy {l:List Int} (h:RY l) (i:Nat):∀ k,k<4→0≤ZY l i k∧ZY l i k<16777216
 | 0,_=>by simp [ZY]
 | 1,_=>by have:=SY h (4*i+0);simp only [ZY];omega
 | 2,_=>by have:=SY h (4*i+0);have:=SY h (4*i+1);simp only [ZY];omega
 | 3,_=>by have:=SY h (4*i+0);have:=SY h (4*i+1);have:=SY h (4*i+2);simp only [ZY];omega
theorem Ky {b:ByteArray} (hb:b.size=64) (v:List Int) (i:Nat) (hi:i<16):∀ (j k m:Nat),k+j=4→
  TY (m+j+1) (.c1 b (i:Int) (i:Int) (k:Int) v (FN (bs b) i++ZY (bs b) i k::List.replicate (63 - i) 0))=TY m (.c0 b ((i+1:Nat):Int) v (FN (bs b) (i+1)++List.replicate (63 - i) 0)):=by
 have hby:=Lc b
 intro j
 induction j with
 | zero=>
  intro k m h
  obtain rfl:k=4:=by omega
  have e:w64 ((i:Int)+1)=((i+1:Nat):Int):=by rw [w64_id (by omega) (by omega)];rfl
  rw [TY]
  simp only [YZ,e]
  rw [CV (by simp),Iy,Tq]
  simp
 | succ j ih=>
  intro k m h
  have hk:k<4:=by omega
  have hlen:(FN (bs b) i++ZY (bs b) i k::List.replicate (63 - i) 0).length=64:=by
   simp only [List.length_append,List.length_cons,List.length_replicate,VZ];omega
  have e:w64 ((k:Int)+1)=((k+1:Nat):Int):=by rw [w64_id (by omega) (by omega)];rfl
  have e4:w64 (4*(i:Int))=((4*i:Nat):Int):=by rw [w64_id (by omega) (by omega)];omega
  have e5:w64 (((4*i:Nat):Int)+(k:Int))=((4*i+k:Nat):Int):=by rw [w64_id (by omega) (by omega)];omega
  have e8:(2:Int) ^ (Min.min (8:Int).toNat (IntKind.bits IntKind.u32))=256:=by decide
  have hg:(FN (bs b) i++ZY (bs b) i k::List.replicate (63 - i) 0).getD i 0=ZY (bs b) i k:=by
   rw [Dq (by rw [VZ];omega),VZ,Nat.sub_self];rfl
  rw [show m+(j+1)+1=(m+j+1)+1 by omega,TY]
  simp only [YZ,e,e4,e5,e8,Int.toNat_natCast,hlen,hg,Kq]
  rw [TB (by simp;omega),TB (by rfl),TB (by simp;omega),TB (by simp;omega),TB (by rfl),TB (by simp;omega)]
  rw [Jc (by omega),Hy (Jy hby i k hk) (SY hby _),Vh (VZ _ i)]
  exact ih (k+1) m (by omega)
theorem Ny {b:ByteArray} (hb:b.size=64) (v:List Int):∀ (j i m:Nat),i+j=16→TY (m+6*j+1) (.c0 b (i:Int) v (FN (bs b) i++List.replicate (64 - i) 0))=TY m (.c2 16 v (FN (bs b) 16++List.replicate 48 0)):=by
 intro j
 induction j with
 | zero=>
  intro i m h
  obtain rfl:i=16:=by omega
  rw [TY]
  simp only [YZ]
  rw [CV (by simp)]
 | succ j ih=>
  intro i m h
  rw [show m+6*(j+1)+1=(m+6*j+1)+4+1+1 by omega,TY]
  simp only [YZ]
  rw [TB (by simp;omega)]
  have h1:=Ky hb v i (by omega) 4 0 (m+6*j+1) (by omega)
  rw [show 64 - i=(63 - i)+1 by omega,List.replicate_succ]
  have h2:=ih (i+1) m (by omega)
  rw [show 64 - (i+1)=63 - i by omega] at h2
  exact h1.trans h2
theorem Oy {w v:List Int} (hw:∀ x ∈ w,R32 x) (hwl:w.length=16) (hv:v.length=64):∀ (j i m:Nat),i+j=48→TY (m+j+1) (.c2 ((16+i:Nat):Int) v (sched w i++List.replicate (48 - i) 0))=some (sched w 48):=by
 intro j
 induction j with
 | zero=>
  intro i m h
  obtain rfl:i=48:=by omega
  have hl:=Yf hwl 48
  rw [TY]
  simp only [YZ,Nat.sub_self,List.replicate_zero,List.append_nil,hl,hv]
  rfl
 | succ j ih=>
  intro i m h
  have hl:=Yf hwl i
  have hr:=Yh hw i
  have hlen:(sched w i++List.replicate (48 - i) 0).length=64:=by
   simp only [List.length_append,List.length_replicate,hl];omega
  have e2:w64 (((16+i:Nat):Int) - 2)=((16+i - 2:Nat):Int):=by rw [w64_id (by omega) (by omega)];omega
  have e7:w64 (((16+i:Nat):Int) - 7)=((16+i - 7:Nat):Int):=by rw [w64_id (by omega) (by omega)];omega
  have e15:w64 (((16+i:Nat):Int) - 15)=((16+i - 15:Nat):Int):=by rw [w64_id (by omega) (by omega)];omega
  have e16:w64 (((16+i:Nat):Int) - 16)=((16+i - 16:Nat):Int):=by rw [w64_id (by omega) (by omega)];omega
  have e1:w64 (((16+i:Nat):Int)+1)=((16+(i+1):Nat):Int):=by rw [w64_id (by omega) (by omega)];omega
  have g2:(sched w i++List.replicate (48 - i) 0).getD (16+i - 2) 0=(sched w i).getD (16+i - 2) 0:=Uh (by omega) 0
  have g7:(sched w i++List.replicate (48 - i) 0).getD (16+i - 7) 0=(sched w i).getD (16+i - 7) 0:=Uh (by omega) 0
  have g15:(sched w i++List.replicate (48 - i) 0).getD (16+i - 15) 0=(sched w i).getD (16+i - 15) 0:=Uh (by omega) 0
  have g16:(sched w i++List.replicate (48 - i) 0).getD (16+i - 16) 0=(sched w i).getD (16+i - 16) 0:=Uh (by omega) 0
  have f10:∀ x:Int,Int.fdiv x (2 ^ (Min.min (10:Int).toNat (IntKind.bits IntKind.u32)))=x / 1024:=fun x=>Int.fdiv_eq_ediv_of_nonneg _ (by decide)
  have f3:∀ x:Int,Int.fdiv x (2 ^ (Min.min (3:Int).toNat (IntKind.bits IntKind.u32)))=x / 8:=fun x=>Int.fdiv_eq_ediv_of_nonneg _ (by decide)
  have r15:=Zf hr (16+i - 15)
  have r2:=Zf hr (16+i - 2)
  rw [show m+(j+1)+1=(m+j+1)+1 by omega,TY]
  simp only [YZ,e1,e2,e7,e15,e16,Int.toNat_natCast,hlen,g2,g7,g15,g16,Zx r15,Dy r15,Ey r2,Gy r2,Option.bind_some,f10,f3,Cb]
  rw [TB (by simp;omega),TB (by rfl),TB (by simp;omega),TB (by rfl),TB (by simp;omega),TB (by rfl),TB (by simp;omega),TB (by rfl),TB (by simp;omega),TB (by rfl),TB (by simp;omega)]
  rw [show 48 - i=(48 - (i+1))+1 by omega,List.replicate_succ,Vh (by omega)]
  have h2:=ih (i+1) m (by omega)
  rw [sched,List.append_assoc] at h2
  exact h2
theorem Py {b:ByteArray} (hb:b.size=64):Na b=some (sched (FN (bs b) 16) 48):=by
 obtain ⟨m,hm⟩:∃ m,gas=(m+48+1)+6*16+1:=⟨gas - 146,by have:=gas_lt (n:=146) (by omega);omega⟩
 rw [Na,Qj,hm]
 have h0:=Ny hb (List.replicate 64 0) 16 0 (m+48+1) (by omega)
 have h2:=Oy (w:=FN (bs b) 16) (v:=List.replicate 64 0) (Jm (Lc b) 16) (VZ _ 16) (List.length_replicate ..) 48 0 m (by omega)
 rw [show FN (bs b) 0++List.replicate (64 - 0) 0=List.replicate 64 (0:Int) from rfl,show ((0:Nat):Int)=0 from rfl] at h0
 rw [show ((16+0:Nat):Int)=16 from rfl,show sched (FN (bs b) 16) 0=FN (bs b) 16 from rfl,show 48 - 0=48 from rfl] at h2
 rw [h0,h2]
theorem Qy {s:ByteArray} {i:Nat} (h:4*i+4≤s.size) (hs:s.size≤9000000000000000000):Ua s ((4*i:Nat):Int)=some (wordAt (bs s) i):=by
 have hb:=Lc s
 have e1:w64 (((4*i:Nat):Int)+1)=((4*i+1:Nat):Int):=by rw [w64_id (by omega) (by omega)];rfl
 have e2:w64 (((4*i:Nat):Int)+2)=((4*i+2:Nat):Int):=by rw [w64_id (by omega) (by omega)];rfl
 have e3:w64 (((4*i:Nat):Int)+3)=((4*i+3:Nat):Int):=by rw [w64_id (by omega) (by omega)];rfl
 simp only [Ua,Rk,e1,e2,e3]
 rw [TB (by simp;omega),TB (by simp;omega),TB (by simp;omega),TB (by simp;omega)]
 rw [Jc (by omega),Jc (by omega),Jc (by omega),Jc (by omega)]
 have b0:=SY hb (4*i)
 have b1:=SY hb (4*i+1)
 have b2:=SY hb (4*i+2)
 have b3:=SY hb (4*i+3)
 unfold wordAt be4
 simp only [Za]
 congr 1
 omega
theorem Ar {s:ByteArray} (hs:s.size≤1000000000000):QY s=some (FN (bs s) (s.size / 4)):=by
 have key:=loopN (A:=Unit) (n:=s.size / 4) (Lp:=Ve) (st:=fun i _=>.c0 s ((4*i:Nat):Int) (FN (bs s) i)) (Inv:=fun _ _=>True) (out:=fun _ _=>some (FN (bs s) (s.size / 4)))
  (fun m _ _=>by
   simp only [Ve,Gh]
   rw [w64_id (by omega) (by omega),CV (by simp;omega)])
  (fun m i _ hi _=>.inr ⟨(),by
   have e:w64 (((4*i:Nat):Int)+4)=((4*(i+1):Nat):Int):=by rw [w64_id (by omega) (by omega)];omega
   simp only [Ve,Gh,e,Qy (s:=s) (i:=i) (by omega) (by omega),Option.bind_some,VZ,Tq]
   rw [TB (by simp;omega),TB (by simp;omega)],trivial,rfl⟩)
 exact key gas 0 () (Nat.zero_le _) (gas_lt (by omega)) trivial
theorem NZ {x low high:Int} (h:R32 x) (hl:0<low) (hh:0<high) (hlh:low*high=4294967296):Xe x low high=some (rt low high x):=by
 have hr:=Iw h hl hh hlh
 obtain ⟨h1,h2⟩:=h
 have e0:(!(low == 0))=true:=by simp;omega
 have d1:0≤x / low:=Int.ediv_nonneg h1 (by omega)
 have d2:0≤x % low*high:=Int.mul_nonneg (Int.emod_nonneg _ (by omega)) (by omega)
 unfold R32 rt at hr
 simp only [Xe,Xk,e0,cond_true,Int.tdiv_eq_ediv_of_nonneg h1,Int.tmod_eq_emod_of_nonneg h1]
 rw [FZ d1 (by omega),FZ d2 (by omega),FZ (by omega) (by omega)]
 rfl
theorem Ry {x:Int} (h:R32 x):VY x 131072 524288 1024 true=some (sg1 x):=by
 have e1:w32 (w32 ((2147483648:Int).tdiv 131072)*2)=32768:=by decide
 have e2:w32 (w32 ((2147483648:Int).tdiv 524288)*2)=8192:=by decide
 have e3:w32 (x.tdiv 1024)=x / 1024:=by
  obtain ⟨h1,h2⟩:=h
  rw [Int.tdiv_eq_ediv_of_nonneg h1,FZ (by omega) (by omega)]
 simp only [VY,Bc,e1,e2,e3,NZ h (low:=131072) (high:=32768) (by omega) (by omega) (by omega),NZ h (low:=524288) (high:=8192) (by omega) (by omega) (by omega),Option.bind_some,Cb]
 rfl
theorem Uy {x:Int} (h:R32 x):VY x 128 262144 8 true=some (Oq x):=by
 have e1:w32 (w32 ((2147483648:Int).tdiv 128)*2)=33554432:=by decide
 have e2:w32 (w32 ((2147483648:Int).tdiv 262144)*2)=16384:=by decide
 have e3:w32 (x.tdiv 8)=x / 8:=by
  obtain ⟨h1,h2⟩:=h
  rw [Int.tdiv_eq_ediv_of_nonneg h1,FZ (by omega) (by omega)]
 simp only [VY,Bc,e1,e2,e3,NZ h (low:=128) (high:=33554432) (by omega) (by omega) (by omega),NZ h (low:=262144) (high:=16384) (by omega) (by omega) (by omega),Option.bind_some,Cb]
 rfl
theorem Vy {x:Int} (h:R32 x):VY x 64 2048 33554432 false=some (Pq x):=by
 have e1:w32 (w32 ((2147483648:Int).tdiv 64)*2)=67108864:=by decide
 have e2:w32 (w32 ((2147483648:Int).tdiv 2048)*2)=2097152:=by decide
 have e3:w32 (w32 ((2147483648:Int).tdiv 33554432)*2)=128:=by decide
 simp only [VY,Bc,e1,e2,e3,NZ h (low:=64) (high:=67108864) (by omega) (by omega) (by omega),NZ h (low:=2048) (high:=2097152) (by omega) (by omega) (by omega),NZ h (low:=33554432) (high:=128) (by omega) (by omega) (by omega),Option.bind_some,Cb]
 rfl
theorem Wy {x:Int} (h:R32 x):VY x 4 8192 4194304 false=some (Qq x):=by
 have e1:w32 (w32 ((2147483648:Int).tdiv 4)*2)=1073741824:=by decide
 have e2:w32 (w32 ((2147483648:Int).tdiv 8192)*2)=524288:=by decide
 have e3:w32 (w32 ((2147483648:Int).tdiv 4194304)*2)=1024:=by decide
 simp only [VY,Bc,e1,e2,e3,NZ h (low:=4) (high:=1073741824) (by omega) (by omega) (by omega),NZ h (low:=8192) (high:=524288) (by omega) (by omega) (by omega),NZ h (low:=4194304) (high:=1024) (by omega) (by omega) (by omega),Option.bind_some,Cb]
 rfl
theorem Hr (s r:Reg):∀ i,i<8→(Eb s r).l.getD i 0=w32 (s.l.getD i 0+r.l.getD i 0)
 | 0,_=>rfl | 1,_=>rfl | 2,_=>rfl | 3,_=>rfl | 4,_=>rfl | 5,_=>rfl | 6,_=>rfl | 7,_=>rfl
 | n+8,h=>by omega
theorem Z4 (n:Nat) (h:n<9223372036854775807):∃ m,gas=m+n:=⟨gas - n,by have:=gas_lt h;omega⟩
theorem Xy (s r:Reg):∀ (j i m:Nat),i+j=8→NY (m+j+1) (.c3 s.l (i:Int) r.l ((Eb s r).l.take i))=some (Eb s r).l:=by
 intro j
 induction j with
 | zero=>
  intro i m h
  obtain rfl:i=8:=by omega
  simp only [NY,KZ]
  rfl
 | succ j ih=>
  intro i m h
  have e:w64 ((i:Int)+1)=((i+1:Nat):Int):=by rw [w64_id (by omega) (by omega)];rfl
  have hl:∀ q:Reg,q.l.length=8:=fun _=>rfl
  rw [show m+(j+1)+1=(m+j+1)+1 by omega]
  simp only [NY,KZ,e,Int.toNat_natCast]
  rw [TB (by simp;omega),TB (by simp [hl];omega),TB (by simp [hl];omega),TB (by simp [hl];omega)]
  have h3:=ih (i+1) m (by omega)
  rw [take_at (by rw [hl];omega),←getD_at (by rw [hl];omega) 0,Hr _ _ _ (by omega)] at h3
  exact h3
def Qm:Nat→List Int→List Int
 | 0,v=>v
 | i+1,v=>Qm i (v.set (i+1) (v.getD i 0))
theorem Yy (t o W:List Int) (k T1 T2:Int) (hk:0≤k∧k<64):∀ (i m:Nat) (v:List Int),i<8→v.length=8→NY (m+i+1) (.c2 t o k T1 T2 (i:Int) W v)=NY m (.c1 t o (k+1) W (((Qm i v).set 4 (w32 ((Qm i v).getD 4 0+T1))).set 0 (w32 (T1+T2)))):=by
 intro i
 induction i with
 | zero=>
  intro m v _ hl
  have e:w64 (k+1)=k+1:=w64_id (by omega) (by omega)
  simp only [NY,KZ,e]
  rw [CV (by simp),TB (by simp [hl]),TB (by simp [hl]),TB (by simp [hl])]
  rfl
 | succ i ih=>
  intro m v hi hl
  have e:w64 (((i+1:Nat):Int) - 1)=(i:Int):=by rw [w64_id (by omega) (by omega)];omega
  rw [show m+(i+1)+1=(m+i+1)+1 by omega]
  rw [NY]
  simp only [KZ,e,Int.toNat_natCast]
  rw [TB (by simp;try omega),TB (by simp [hl];try omega),TB (by simp [hl];try omega),ih m _ (by omega) (by simp [hl])]
  rfl
theorem Zy (t W:List Int) (r:Reg) (hr:r.ok) (hW:∀ x ∈ W,R32 x) (hWl:W.length=64) (i m:Nat) (hi:i<64) :
  NY (m+9) (.c1 t keysL (i:Int) W r.l)=NY m (.c1 t keysL ((i:Int)+1) W (GZ r (keysL.getD i 0) (W.getD i 0)).l):=by
 obtain ⟨h1,h2,h3,h4,h5,h6,h7,h8⟩:=hr
 have hk:keysL.length=64:=rfl
 have g (q:Reg):q.l.getD 0 0=q.a∧q.l.getD 1 0=q.b∧q.l.getD 2 0=q.c∧q.l.getD 4 0=q.e∧q.l.getD 5 0=q.f∧q.l.getD 6 0=q.g∧q.l.getD 7 0=q.h:=⟨rfl,rfl,rfl,rfl,rfl,rfl,rfl⟩
 obtain ⟨g0,g1,g2,g4,g5,g6,g7⟩:=g r
 have hl:r.l.length=8:=rfl
 have z4:(4:Int).toNat=4:=rfl
 have z5:(5:Int).toNat=5:=rfl
 have z6:(6:Int).toNat=6:=rfl
 have z7:(7:Int).toNat=7:=rfl
 have z0:(0:Int).toNat=0:=rfl
 have z1:(1:Int).toNat=1:=rfl
 have z2:(2:Int).toNat=2:=rfl
 rw [show m+9=(m+7+1)+1 by omega,NY]
 simp only [KZ,z0,z1,z2,z4,z5,z6,z7,g0,g1,g2,g4,g5,g6,g7,hl,hk,hWl,Vy h5,Wy h1,Option.bind_some,Cb,Jq,Int.toNat_natCast]
 rw [TB (by simp;omega),TB (by simp),TB (by simp),TB (by simp),TB (by simp),TB (by simp;omega),TB (by simp;omega),TB (by simp),TB (by simp),TB (by simp),TB (by simp),TB (by simp),TB (by simp),TB (by simp)]
 exact Yy t keysL W (i:Int) (t1 r (keysL.getD i 0) (W.getD i 0)) (t2 r) (by omega) 7 m r.l (by omega) rfl
theorem Az (s:Reg) (hs:s.ok) (W:List Int) (hW:∀ x ∈ W,R32 x) (hWl:W.length=64):∀ (j i m:Nat),i+j=64→NY (m+9*j+10) (.c1 s.l keysL (i:Int) W (KY keysL W s i).l)=some (Eb s (KY keysL W s 64)).l:=by
 intro j
 induction j with
 | zero=>
  intro i m h
  obtain rfl:i=64:=by omega
  rw [show m+9*0+10=(m+8+1)+1 by omega,NY]
  simp only [KZ]
  rw [CV (by simp)]
  exact Xy s _ 8 0 m (by omega)
 | succ j ih=>
  intro i m h
  rw [show m+9*(j+1)+10=(m+9*j+10)+9 by omega,Zy s.l W _ (Rq keysL W hs i) hW hWl i _ (by omega)]
  exact ih (i+1) m (by omega)
theorem Bz (s:Reg) (hs:s.ok) (w:List Int) (hw:∀ x ∈ w,R32 x) (hwl:w.length=16):∀ (j i m:Nat),i+j=48→NY (m+9*64+10+1+j) (.c0 s.l keysL ((16+i:Nat):Int) (sched w i))=some (Eb s (KY keysL (sched w 48) s 64)).l:=by
 intro j
 induction j with
 | zero=>
  intro i m h
  obtain rfl:i=48:=by omega
  rw [show m+9*64+10+1+0=(m+9*64+10)+1 by omega,NY]
  simp only [KZ]
  rw [CV (by simp),TB (by simp [Reg.l])]
  exact Az s hs _ (Yh hw 48) (Yf hwl 48) 64 0 m (by omega)
 | succ j ih=>
  intro i m h
  have hl:=Yf hwl i
  have hr:=Yh hw i
  have e2:w64 (((16+i:Nat):Int) - 2)=((16+i - 2:Nat):Int):=by rw [w64_id (by omega) (by omega)];omega
  have e7:w64 (((16+i:Nat):Int) - 7)=((16+i - 7:Nat):Int):=by rw [w64_id (by omega) (by omega)];omega
  have e15:w64 (((16+i:Nat):Int) - 15)=((16+i - 15:Nat):Int):=by rw [w64_id (by omega) (by omega)];omega
  have e16:w64 (((16+i:Nat):Int) - 16)=((16+i - 16:Nat):Int):=by rw [w64_id (by omega) (by omega)];omega
  have e1:w64 (((16+i:Nat):Int)+1)=((16+(i+1):Nat):Int):=by rw [w64_id (by omega) (by omega)];omega
  rw [show m+9*64+10+1+(j+1)=(m+9*64+10+1+j)+1 by omega,NY]
  simp only [KZ,e1,e2,e7,e15,e16,Int.toNat_natCast,hl,Ry (Zf hr _),Uy (Zf hr _),Option.bind_some]
  rw [TB (by simp;omega),TB (by simp;omega),TB (by simp;omega),TB (by simp;omega),TB (by simp;omega),TB (by simp;omega)]
  exact ih (i+1) m (by omega)
theorem Ir {s:Reg} (hs:s.ok) {b:ByteArray} (hb:b.size=64):EZ s.l keysL b=some (comp s (bs b)).l:=by
 have hr:=Jm (Lc b) 16
 obtain ⟨m,hm⟩:∃ m,gas=m+9*64+10+1+48:=⟨gas - 635,by have:=gas_lt (n:=635) (by omega);omega⟩
 have h:=Bz s hs _ hr (VZ _ 16) 48 0 m (by omega)
 have e0:((16+0:Nat):Int)=16:=rfl
 rw [e0,show sched (FN (bs b) 16) 0=FN (bs b) 16 from rfl] at h
 rw [EZ,Yk,Ar (s:=b) (by omega),Option.bind_some,hb,hm]
 exact h
theorem Dz (s r v:List Int) (hs:s.length=8) (hv:v.length=8) (f:Nat→Int) (hf:∀ i,i<8→f i=w32 (r.getD i 0+s.getD i 0)) (hr:r.length=8):∀ (j i m:Nat),i+j=8→DZ (m+j+1) (.c1 (i:Int) s v ((List.range i).map f++r.drop i))=some ((List.range 8).map f):=by
 intro j
 induction j with
 | zero=>
  intro i m h
  obtain rfl:i=8:=by omega
  rw [DZ]
  simp only [Vb]
  rw [CV (by simp),List.drop_of_length_le (by omega),List.append_nil,TB (by simp),TB (by simp [hv]),TB (by simp)]
 | succ j ih=>
  intro i m h
  have e:w64 ((i:Int)+1)=((i+1:Nat):Int):=by rw [w64_id (by omega) (by omega)];rfl
  have hl:((List.range i).map f++r.drop i).length=8:=by simp [hr];omega
  have hm:((List.range i).map f).length=i:=by simp
  have hg:((List.range i).map f++r.drop i).getD i 0=r.getD i 0:=by
   rw [Dq (by omega),hm,Nat.sub_self]
   simp [List.getD]
  rw [show m+(j+1)+1=(m+j+1)+1 by omega,DZ]
  simp only [Vb,e,Int.toNat_natCast,hl,hs,hg]
  rw [TB (by simp;omega),TB (by rfl),TB (by simp;omega),TB (by rfl),TB (by simp;omega),TB (by rfl),TB (by simp;omega)]
  rw [drop_at (by omega:i<r.length),Vh hm,←hf i (by omega)]
  have h2:=ih (i+1) m (by omega)
  rw [List.range_succ,List.map_append,List.append_assoc] at h2
  exact h2
theorem Ez (s v W:List Int) (hW:∀ x ∈ W,R32 x) (hWl:W.length=64) (r:Reg) (hr:r.ok) (i m:Nat) (hi:i<64) :
  DZ (m+1) (.c0 r.a r.b r.c r.d r.e r.f r.g r.h (i:Int) s v W)=DZ m (.c0 (GZ r (keysL.getD i 0) (W.getD i 0)).a (GZ r (keysL.getD i 0) (W.getD i 0)).b (GZ r (keysL.getD i 0) (W.getD i 0)).c (GZ r (keysL.getD i 0) (W.getD i 0)).d (GZ r (keysL.getD i 0) (W.getD i 0)).e (GZ r (keysL.getD i 0) (W.getD i 0)).f (GZ r (keysL.getD i 0) (W.getD i 0)).g (GZ r (keysL.getD i 0) (W.getD i 0)).h ((i+1:Nat):Int) s v W):=by
 obtain ⟨h1,h2,h3,h4,h5,h6,h7,h8⟩:=hr
 have e:w64 ((i:Int)+1)=((i+1:Nat):Int):=by rw [w64_id (by omega) (by omega)];rfl
 rw [DZ]
 simp only [Vb,e,Int.toNat_natCast,hWl,Wx h5,Xx h5,Yx h5,Rx h1,Ux h1,Vx h1,Option.bind_some,Cb,Jq,Hw h5]
 rw [TB (by simp;omega),TB (by simp;omega),TB (by rw [Nat.blt_eq];omega),TB (by rfl),TB (by simp;omega)]
 rfl
theorem Fz (s v W:List Int) (hW:∀ x ∈ W,R32 x) (hWl:W.length=64) (r:Reg) (hr:r.ok):∀ (j i m:Nat),i+j=64→
  DZ (m+j+1) (.c0 (KY keysL W r i).a (KY keysL W r i).b (KY keysL W r i).c (KY keysL W r i).d (KY keysL W r i).e (KY keysL W r i).f (KY keysL W r i).g (KY keysL W r i).h (i:Int) s v W)=DZ m (.c1 0 s v (KY keysL W r 64).l):=by
 intro j
 induction j with
 | zero=>
  intro i m h
  obtain rfl:i=64:=by omega
  rw [DZ]
  simp only [Vb]
  rw [CV (by simp)]
  rfl
 | succ j ih=>
  intro i m h
  rw [show m+(j+1)+1=(m+j+1)+1 by omega,Ez s v W hW hWl _ (Rq keysL W hr i) i _ (by omega)]
  exact ih (i+1) m (by omega)
theorem Gz {s:Reg} (hs:s.ok) {b:ByteArray} (hb:b.size=64):Oa s.l b=some (comp s (bs b)).l:=by
 obtain ⟨m,hm⟩:∃ m,gas=(m+8+1)+64+1:=⟨gas - 74,by have:=gas_lt (n:=74) (by omega);omega⟩
 have hr:=Yh (Jm (Lc b) 16) 48
 have hl:=Yf (VZ (bs b) 16) 48
 have hsl:s.l.length=8:=rfl
 have z0:(0:Int).toNat=0:=rfl
 have z1:(1:Int).toNat=1:=rfl
 have z2:(2:Int).toNat=2:=rfl
 have z3:(3:Int).toNat=3:=rfl
 have z4:(4:Int).toNat=4:=rfl
 have z5:(5:Int).toNat=5:=rfl
 have z6:(6:Int).toNat=6:=rfl
 have z7:(7:Int).toNat=7:=rfl
 rw [Oa,Rj,Py hb,Option.bind_some,hm]
 simp only [hl,hsl,List.length_replicate,z0,z1,z2,z3,z4,z5,z6,z7]
 rw [TB (by rfl),TB (by rfl),TB (by rfl),TB (by rfl),TB (by rfl),TB (by rfl),TB (by rfl),TB (by rfl),TB (by rfl),TB (by rfl),TB (by rfl),TB (by rfl),TB (by rfl),TB (by rfl),TB (by rfl),TB (by rfl),TB (by rfl)]
 have h0:=Fz s.l [0,0,0,0,0,0,0,0] _ hr hl s hs 64 0 (m+8+1) (by omega)
 rw [show ((0:Nat):Int)=0 from rfl] at h0
 have hf:∀ i,i<8→(fun i=>w32 ((KY keysL (sched (FN (bs b) 16) 48) s 64).l.getD i 0+s.l.getD i 0)) i=w32 ((KY keysL (sched (FN (bs b) 16) 48) s 64).l.getD i 0+s.l.getD i 0):=fun _ _=>rfl
 have h1:=Dz s.l (KY keysL (sched (FN (bs b) 16) 48) s 64).l [0,0,0,0,0,0,0,0] rfl rfl _ hf rfl 8 0 m (by omega)
 rw [show ((0:Nat):Int)=0 from rfl,List.range_zero,List.map_nil,List.nil_append,List.drop_zero] at h1
 have e:(List.range 8).map (fun i=>w32 ((KY keysL (sched (FN (bs b) 16) 48) s 64).l.getD i 0+s.l.getD i 0))=(comp s (bs b)).l:=by
  apply List.ext_getElem
  ·rw [Reg.Ag,List.length_map,List.length_range]
  ·intro i h1 h2
   have hi:i<8:=by simpa using h1
   rw [List.getElem_map,List.getElem_range,←getD_at h2 0]
   rw [comp,Hr _ _ i hi,Int.add_comm]
 rw [e] at h1
 exact h0.trans h1
def NM (x a b:Int):Bool:=decide (a≤x) && decide (x≤b)
theorem Nb {x a b:Int}:NM x a b=true↔a≤x∧x≤b:=by simp [NM]
theorem Jr (x a b:Int):Xb x a b=some (NM x a b):=by
 show (bif decide (a≤x) then some (decide (x≤b)) else some false)=some (NM x a b)
 unfold NM;cases decide (a≤x) <;> rfl
theorem Kr {h:SHasher} (h1:h.fState.size=32) (h2:h.fRest.size<64) (h3:0≤h.fCount∧h.fCount≤1000000000) (h4:h.fCount % 64=(h.fRest.size:Int)):UY h=some true:=by
 have e:NM h.fCount 0 1000000000=true:=by rw [Nb];omega
 simp only [UY,Qk,Jr,Option.bind_some,e]
 rw [TB (by simp;omega),TB (by simp;omega),cond_true,Int.tmod_eq_emod_of_nonneg h3.1,h4]
 simp
theorem Hz {x:Int} (h:R32 x):[w8 (w32 (x.tdiv 16777216)),w8 ((w32 (x.tdiv 65536)).tmod 256),w8 ((w32 (x.tdiv 256)).tmod 256),w8 (x.tmod 256)]=four x:=by
 obtain ⟨h1,h2⟩:=h
 rw [Int.tdiv_eq_ediv_of_nonneg h1,Int.tdiv_eq_ediv_of_nonneg h1,Int.tdiv_eq_ediv_of_nonneg h1,Int.tmod_eq_emod_of_nonneg h1]
 rw [FZ (n:=x / 16777216) (by omega) (by omega),FZ (n:=x / 65536) (by omega) (by omega),FZ (n:=x / 256) (by omega) (by omega)]
 rw [Int.tmod_eq_emod_of_nonneg (by omega),Int.tmod_eq_emod_of_nonneg (by omega)]
 simp only [four,w8_mod,List.cons.injEq,and_true]
 omega
theorem Sm {ws:List Int} (h:∀ x ∈ ws,R32 x) (hl:ws.length≤1000000000000):AZ ws=some (ofBytes (IK ws)):=by
 have key:=loopN (A:=Unit) (n:=ws.length) (Lp:=Me) (st:=fun i _=>.c0 ws (i:Int) (IK (ws.take i))) (Inv:=fun _ _=>True) (out:=fun _ _=>some (ofBytes (IK ws)))
  (fun m _ _=>by
   simp only [Me,Bh]
   rw [CV (by simp),List.take_length])
  (fun m i _ hi _=>.inr ⟨(),by
   have e:w64 ((i:Int)+1)=((i+1:Nat):Int):=by rw [w64_id (by omega) (by omega)];rfl
   simp only [Me,Bh,e,Int.toNat_natCast]
   rw [TB (by simp;omega),TB (by simp;omega),TB (by rw [Oc,List.length_take];simp;omega)]
   rw [getD_at hi,Hz (h _ (List.getElem_mem hi)),take_at hi,Xq]
   simp [IK],trivial,rfl⟩)
 exact key gas 0 () (Nat.zero_le _) (gas_lt (by omega)) trivial
def WZ:SHasher:=⟨ofBytes (IK XY.l),⟨#[]⟩,0⟩
theorem Iz:Qe=some WZ:=by
 have h:=Sm (ws:=XY.l) (Reg.Ib Ba) (by decide)
 have e:Ah=some XY.l:=rfl
 simp only [Qe,Nk,e,h,Option.bind_some]
 rfl
theorem Lr:JZ=some keysL:=rfl
theorem Jz (b:List Int) (i:Nat):(b.take (64*i+64)).drop (64*i)=(b.drop (64*i)).take 64:=by
 rw [List.drop_take];congr 1;omega
theorem Nr (i:Nat) (s:Reg) (b:List Int):comps (i+1) s b=comp (comps i s b) ((b.drop (64*i)).take 64):=by
 rw [Wq i 1];rfl
theorem Qr {r:Reg} (h:r.ok):QY (ofBytes (IK r.l))=some r.l:=by
 have hs:(ofBytes (IK r.l)).size=32:=by rw [ofBytes_size,Oc];rfl
 rw [Ar (by omega),hs,WY (Lm (Reg.Ib h))]
 exact congrArg some (Yw (Reg.Ib h))
theorem Kz {s:ByteArray} (hs:s.size≤1000000000):Bf WZ s=some ⟨ofBytes (IK (comps (s.size / 64) XY (bs s)).l),s.extract (64*(s.size / 64)) s.size,(s.size:Int)⟩:=by
 have e0:UY WZ=some true:=Kr (by rw [WZ,ofBytes_size,Oc];rfl) (by decide) (by decide) (by decide)
 have e1:((⟨#[]⟩:ByteArray)++s)=s:=Ic (by rw [Dc];rfl)
 have key:=loopN (A:=Unit) (n:=s.size / 64) (Lp:=Af) (st:=fun i _=>.c0 s s ((64*i:Nat):Int) WZ (⟨(⟨#[]⟩:ByteArray),(⟨#[]⟩:ByteArray),(0:Int)⟩:SHasher) (comps i XY (bs s)).l keysL) (Inv:=fun _ _=>True)
  (out:=fun _ _=>some ⟨ofBytes (IK (comps (s.size / 64) XY (bs s)).l),s.extract (64*(s.size / 64)) s.size,(s.size:Int)⟩)
  (fun m _ _=>by
   have hw:w64 (WZ.fCount+(s.size:Int))=(s.size:Int):=by
    show w64 ((0:Int)+(s.size:Int))=_
    rw [Int.zero_add,w64_id (by omega) (by omega)]
   rw [Af]
   simp only [Nh,hw,Int.toNat_natCast]
   rw [w64_id (by omega) (by omega),CV (by simp;omega),Sm (Reg.Ib (Fb Ba _ _)) (by simp [Reg.l]),Option.bind_some,TB (by simp;omega)])
  (fun m i _ hi _=>.inr ⟨(),by
   have e:w64 (((64*i:Nat):Int)+64)=((64*(i+1):Nat):Int):=by rw [w64_id (by omega) (by omega)];omega
   rw [Af]
   simp only [Nh,e,Int.toNat_natCast]
   rw [TB (by simp;omega),TB (by simp;omega),Ir (Fb Ba _ _) (by simp;omega),Option.bind_some,Ya,show 64*(i+1)=64*i+64 by omega,Jz,←Nr],trivial,rfl⟩)
 rw [Bf,Bl,e0,Option.bind_some,CV (by rfl)]
 have hw:w64 (WZ.fCount+(s.size:Int))=(s.size:Int):=by
  show w64 ((0:Int)+(s.size:Int))=_
  rw [Int.zero_add,w64_id (by omega) (by omega)]
 rw [hw,CV (by simp;omega),show WZ.fState=ofBytes (IK XY.l) from rfl,Qr Ba,Option.bind_some,Lr,Option.bind_some,show WZ.fRest=⟨#[]⟩ from rfl,e1]
 rw [TB (by (have:(⟨#[]⟩:ByteArray).size=0:=rfl);simp only [this,decide_eq_true_eq];omega)]
 exact key gas 0 () (Nat.zero_le _) (gas_lt (by omega)) trivial
theorem Nz {s:Reg} (hs:s.ok) {t:ByteArray} (ht:t.size≤1000000000000):Ae s.l t=some ((comps (t.size / 64) s (bs t)).l,t.extract (64*(t.size / 64)) t.size):=by
 have key:∀ (j:Nat) (s:Reg) (t:ByteArray) (m:Nat),s.ok→t.size / 64=j→t.size≤1000000000000→Zd (m+j+1) (.c0 t s.l [0,0,0,0,0,0,0,0])=some ((comps j s (bs t)).l,t.extract (64*j) t.size):=by
  intro j
  induction j with
  | zero=>
   intro s t m hs hj ht
   rw [Zd]
   simp only [Yg,Reg.Ag]
   rw [CV (by simp;omega),TB (by rfl),TB (by rfl),TB (by rfl)]
   congr 2
   apply Ic
   rw [Ya,List.take_of_length_le (by rw [bs_len];omega)]
   rfl
  | succ j ih=>
   intro s t m hs hj ht
   have h64:(64:Int).toNat=64:=rfl
   have e1:bs (t.extract 0 64)=(bs t).take 64:=by rw [Ya];rfl
   have e2:bs (t.extract 64 t.size)=(bs t).drop 64:=by rw [Ya,List.take_of_length_le (by rw [bs_len];omega)]
   rw [show m+(j+1)+1=(m+j+1)+1 by omega,Zd]
   simp only [Yg,h64,Reg.Ag]
   rw [TB (by simp;omega),TB (by rfl),TB (by simp;omega)]
   rw [Gz hs (b:=t.extract 0 64) (by simp;omega),Option.bind_some]
   rw [Reg.Ag]
   rw [TB (by rfl)]
   rw [TB (by simp;omega)]
   rw [ih (comp s (bs (t.extract 0 64))) (t.extract 64 t.size) m (Vq _ _) (by simp;omega) (by simp;omega),e1,e2]
   have e3:(t.extract 64 t.size).extract (64*j) (t.extract 64 t.size).size=t.extract (64*(j+1)) t.size:=by
    apply Ic
    rw [Ya,e2,Ya,List.take_of_length_le (by simp [bs_len]),List.take_of_length_le (by rw [bs_len];omega),List.drop_drop]
    congr 1
    omega
   rw [e3,comps]
 obtain ⟨m,hm⟩:∃ m,gas=m+t.size / 64+1:=⟨gas - (t.size / 64+1),by have:=gas_lt (n:=t.size / 64+1) (by omega);omega⟩
 rw [Ae,Tj,hm]
 exact key _ s t m hs rfl ht
theorem Oz {r:Reg} (hr:r.ok):Fe r.l=some (ofBytes (IK r.l)):=by
 have hl:r.l.length=8:=rfl
 have hrl:=Reg.Ib hr
 have hby:∀ i,RY (IK (r.l.take i)):=fun i=>Lm (fun x hx=>hrl x (List.mem_of_mem_take hx))
 have key:=loopN (A:=Unit) (n:=8) (Lp:=Ee) (st:=fun i _=>.c0 (ofBytes (IK (r.l.take i))) r.l (i:Int)) (Inv:=fun _ _=>True) (out:=fun _ _=>some (ofBytes (IK r.l)))
  (fun m _ _=>by
   rw [Ee]
   simp only [Zg]
   rw [CV (by simp)]
   rfl)
  (fun m i _ hi _=>.inr ⟨(),by
   have e:w64 ((i:Int)+1)=((i+1:Nat):Int):=by rw [w64_id (by omega) (by omega)];rfl
   have hg:r.l.getD i 0=r.l[i]'(by omega):=getD_at (by omega) 0
   have hx:R32 (r.l.getD i 0):=Zf hrl i
   rw [Ee]
   simp only [Zg,e,Int.toNat_natCast,Zq hx,Option.bind_some,hl]
   rw [TB (by simp;omega),TB (by rfl),TB (by simp;omega),TB (by rw [ofBytes_size,ofBytes_size,Oc];simp [four];omega)]
   congr 2
   apply Ic
   rw [Dc,WY (hby i),WY (hby (i+1)),WY (Zh hx),take_at (by omega),Xq,hg]
   simp [IK],trivial,rfl⟩)
 rw [Fe,Vj,hl,TB (by rfl)]
 exact key gas 0 () (Nat.zero_le _) (gas_lt (by omega)) trivial
theorem Pz:Qg=some XY.l:=rfl
theorem Qz {s:ByteArray} (hs:s.size≤1000000000):He s=some (CZ s):=by
 have h1:=Ai s.size
 have hsz:(s++ofBytes (SN s.size)).size=s.size+(SN s.size).length:=by rw [ByteArray.size_append,ofBytes_size]
 rw [He,Xj,Pz,Option.bind_some,Px (n:=s.size) (by omega),Option.bind_some,TB (by rw [ofBytes_size];simp;omega),Nz Ba (by omega),Option.bind_some]
 simp only [Reg.Ag]
 rw [TB (by rfl),TB (by rfl),Oz (Fb Ba _ _),Option.bind_some,hsz,Dc,WY (Om _),CZ,Jb,bs_len]
def Ob (b:Int):Nat→List Int
 | 0=>[]
 | i+1=>(b / 256 ^ i % 256)::Ob b i
def OZ:Nat→Nat
 | 0=>0
 | i+1=>OZ i+(i+2)
theorem Rz (x:Int) (j:Nat):x / 256 / 256 ^ j=x / 256 ^ (j+1):=by
 rw [Int.ediv_ediv_of_nonneg (by omega)]
 congr 1
 rw [Int.pow_succ,Int.mul_comm]
theorem Sz (h:SHasher) (b:Int):∀ (j k i m:Nat) (x:Int) (t:List Int),k+j=i→i≤7→0≤x→x≤9223372036854775807→t.length≤1000→
  OY (m+j+1) (.c2 b (i:Int) x (k:Int) h t)=OY m (.c1 b ((i:Int) - 1) h (t++[x / 256 ^ j % 256])):=by
 intro j
 induction j with
 | zero=>
  intro k i m x t hk hi hx hx2 ht
  have e:w64 ((i:Int) - 1)=(i:Int) - 1:=w64_id (by omega) (by omega)
  have e2:w8 (x.tmod 256)=x % 256:=by rw [Int.tmod_eq_emod_of_nonneg hx,w8_id (by omega) (by omega)]
  rw [OY]
  simp only [LZ,e,e2]
  rw [CV (by simp;omega),TB (by simp;omega),Int.pow_zero,Int.ediv_one]
 | succ j ih=>
  intro k i m x t hk hi hx hx2 ht
  have e:w64 ((k:Int)+1)=((k+1:Nat):Int):=by rw [w64_id (by omega) (by omega)];rfl
  have e2:w64 (x.tdiv 256)=x / 256:=by rw [Int.tdiv_eq_ediv_of_nonneg hx,w64_id (by omega) (by omega)]
  rw [show m+(j+1)+1=(m+j+1)+1 by omega,OY]
  simp only [LZ,e,e2]
  rw [TB (by simp;omega),ih (k+1) i m (x / 256) t (by omega) hi (by omega) (by omega) ht,Rz]
theorem Tz (h:SHasher) (b:Int) (hb:0≤b) (hb2:b≤9223372036854775807):∀ (i m:Nat) (t:List Int),i≤8→t.length+i≤900→OY (m+OZ i) (.c1 b ((i:Int) - 1) h t)=OY m (.c1 b (-1) h (t++Ob b i)):=by
 intro i
 induction i with
 | zero=>intro m t _ _;simp [OZ,Ob]
 | succ i ih=>
  intro m t hi ht
  rw [OZ,show m+(OZ i+(i+2))=(m+OZ i)+i+1+1 by omega,OY,show ((i+1:Nat):Int) - 1=(i:Int) by omega]
  simp only [LZ]
  rw [TB (by simp),show (0:Int)=((0:Nat):Int) from rfl,Sz h b i 0 i _ b t (by omega) (by omega) hb hb2 (by omega),ih m _ (by omega) (by simp;omega)]
  simp [Ob]
theorem Uz {b:Int} (h:0≤b) (h2:b<1099511627776):Ob b 8=IZ b:=by
 simp only [Ob,IZ,List.cons.injEq,and_true]
 omega
theorem Vz (r:Reg) (hr:r.ok) (t:List Int) (ht:RY t) (n:Nat) (hn:t.length=64*n) (hn2:n≤100):∀ (j i m:Nat),i+j=n→OY (m+j+1) (.c3 ((64*i:Nat):Int) t (comps i r t).l keysL)=some (ofBytes (IK (comps n r t).l)):=by
 intro j
 induction j with
 | zero=>
  intro i m h
  obtain rfl:i=n:=by omega
  rw [OY]
  simp only [LZ]
  rw [CV (by simp;omega),Sm (Reg.Ib (Fb hr _ _)) (by simp [Reg.l]),Option.bind_some]
 | succ j ih=>
  intro i m h
  have e:w64 (((64*i:Nat):Int)+64)=((64*(i+1):Nat):Int):=by rw [w64_id (by omega) (by omega)];omega
  have hl:((t.drop (64*i)).take (64*(i+1) - 64*i)).length=64:=by rw [List.length_take,List.length_drop];omega
  have hby:RY ((t.drop (64*i)).take (64*(i+1) - 64*i)):=fun x hx=>ht x (List.mem_of_mem_drop (List.mem_of_mem_take hx))
  rw [show m+(j+1)+1=(m+j+1)+1 by omega,OY]
  simp only [LZ,e,Int.toNat_natCast]
  rw [TB (by simp;omega),TB (by simp;omega),Ir (Fb hr _ _) (by rw [ofBytes_size,hl]),Option.bind_some,WY hby,show 64*(i+1) - 64*i=64 by omega,←Nr]
  exact ih (i+1) m (by omega)
theorem Xz (h:SHasher) (r:List Int) (hr:r.length<64):∀ (j i m:Nat),i+j=(119 - r.length) % 64→OY (m+j+1) (.c0 h (r++128::List.replicate i 0))=OY m (.c1 (w64 (8*h.fCount)) 7 h (r++128::List.replicate ((119 - r.length) % 64) 0)):=by
 intro j
 induction j with
 | zero=>
  intro i m hi
  rw [OY]
  simp only [LZ]
  rw [CV (by rw [Int.tmod_eq_emod_of_nonneg (by omega)];simp;omega),show i=(119 - r.length) % 64 by omega]
 | succ j ih=>
  intro i m hi
  rw [show m+(j+1)+1=(m+j+1)+1 by omega,OY]
  simp only [LZ]
  rw [TB (by rw [Int.tmod_eq_emod_of_nonneg (by omega)];simp;omega),TB (by simp;omega)]
  have e:(r++128::List.replicate i (0:Int))++[0]=r++128::List.replicate (i+1) 0:=by
   rw [List.replicate_succ'];simp
  rw [e]
  exact ih (i+1) m (by omega)
theorem Yz {r:Reg} (hr:r.ok) {s:ByteArray} {n:Nat} (hs:s.size=n % 64) (hn:n≤1000000000):Ef ⟨ofBytes (IK r.l),s,(n:Int)⟩=some (ofBytes (IK (comps ((s.size+(SN n).length) / 64) r (bs s++SN n)).l)):=by
 have e0:UY ⟨ofBytes (IK r.l),s,(n:Int)⟩=some true:=Kr (by rw [ofBytes_size,Oc];rfl) (by simp only;omega) (by simp only;omega) (by simp only;omega)
 have hl:=bs_len s
 obtain ⟨m,hm⟩:∃ m,gas=((m+((s.size+(SN n).length) / 64)+1+1+OZ 8)+((119 - (bs s).length) % 64)+1):=⟨gas - (((s.size+(SN n).length) / 64)+1+1+OZ 8+((119 - (bs s).length) % 64)+1),by
  have:=gas_lt (n:=1000) (by omega)
  have h2:=Ai n
  have h3:OZ 8=44:=rfl
  omega⟩
 have hw:w64 (8*(n:Int))=8*(n:Int):=w64_id (by omega) (by omega)
 have hrep:(bs s++128::List.replicate ((119 - (bs s).length) % 64) 0)++Ob (8*(n:Int)) 8=bs s++SN n:=by
  rw [Uz (by omega) (by omega),SN,hl,hs,show (119 - n % 64) % 64=(119 - n % 64) % 64 from rfl]
  simp
 rw [Ef,Gl,e0,Option.bind_some,CV (by rfl),TB (by simp;omega),Aw,TB (by rw [hl];simp;omega),hm]
 have h0:=Xz ⟨ofBytes (IK r.l),s,(n:Int)⟩ (bs s) (by omega) ((119 - (bs s).length) % 64) 0 (m+((s.size+(SN n).length) / 64)+1+1+OZ 8) (by omega)
 rw [List.replicate_zero] at h0
 rw [h0,show (7:Int)=((8:Nat):Int) - 1 from rfl]
 simp only [hw]
 rw [Tz _ _ (by omega) (by omega) 8 _ _ (by omega) (by simp;omega),hrep,OY]
 simp only [LZ]
 rw [CV (by simp),Qr hr,Option.bind_some,Lr,Option.bind_some]
 have hb:RY (bs s++SN n):=fun x hx=>by
  rcases List.mem_append.1 hx with hx | hx
  ·exact Lc s x hx
  ·exact Om n x hx
 have hlen:(bs s++SN n).length=64*((s.size+(SN n).length) / 64):=by
  have:=Zw n
  rw [List.length_append,hl]
  omega
 exact Vz r hr _ hb _ hlen (by have:=Ai n;omega) ((s.size+(SN n).length) / 64) 0 m (by omega)
theorem Zz (b:List Int):comps ((b.length+(SN b.length).length) / 64) XY (b++SN b.length)=comps ((b.length % 64+(SN b.length).length) / 64) (comps (b.length / 64) XY b) (b.drop (64*(b.length / 64))++SN b.length):=by
 rw [show (b.length+(SN b.length).length) / 64=b.length / 64+(b.length % 64+(SN b.length).length) / 64 by omega,Wq,Vw _ _ _ _ (by omega),List.drop_append_of_le_length (by omega)]
theorem Um {s:ByteArray} (hs:s.size≤1000000000):Va s=some (CZ s):=by
 have h1:(s.extract (64*(s.size / 64)) s.size).size=s.size % 64:=by simp;omega
 have h:=Yz (Fb Ba (s.size / 64) (bs s)) (s:=s.extract (64*(s.size / 64)) s.size) h1 hs
 rw [Ya,h1,List.take_of_length_le (by rw [bs_len];omega)] at h
 rw [Va,Hl,Iz,Option.bind_some,Kz hs,Option.bind_some,h,Option.bind_some,CZ,Jb,Zz,bs_len]
def defaults (kind:Int) (data:ByteArray):SThing×Bool:=
 bif kind == 1 then (⟨0,kind,true,false,false,true,CZ data,0⟩,true)
 else bif kind == 2 then (⟨0,kind,true,false,true,false,CZ data,0⟩,true)
 else bif kind == 3 then (bif decide ((data.size:Int)≤100) then (⟨0,kind,false,false,false,false,data,0⟩,true) else (⟨0,0,false,false,false,false,⟨#[]⟩,0⟩,false))
 else (⟨0,0,false,false,false,false,⟨#[]⟩,0⟩,false)
theorem O0 (kind:Int) {data:ByteArray} (h:data.size≤1000000000):Gf kind data=some (defaults kind data):=by
 simp only [Gf,Jl,Um h,Option.bind_some,defaults]
 cases kind == 1 <;> cases kind == 2 <;> cases kind == 3 <;> cases decide ((data.size:Int)≤100) <;> rfl
theorem U0 (kind:Int) {data:ByteArray} (h:data.size≤1000000000):Ie kind data=some (defaults kind data):=by
 simp only [Ie,Zj,Qz h,Option.bind_some,defaults]
 cases kind == 1 <;> cases kind == 2 <;> cases kind == 3 <;> cases decide ((data.size:Int)≤100) <;> rfl
theorem Sr {c:SL01Cur} {l:List ByteArray} (hc:RV c) (hl:0<l.length):Ok (Hf c l) fun r=>r.1 ∈ l∧RV r.2:=by
 rw [Hf,Nl]
 refine Ok.bind (BZ hc) fun a ha=>?_
 have h1:=ha.1.2.1 (by omega)
 refine Ok.chk (by simp;omega) (Ok.ret ⟨?_,ha.2⟩)
 rw [getD_at (by omega)];exact List.getElem_mem _
def TT (x:SThing):Bool:=NM x.fId 1 1000 && NM x.fKind 1 3 && NM x.fNext 0 16 && ((x.fKind == 2) || ((x.fNext == 0) && !x.fSigns)) && ((x.fKind == 1) || !x.fWraps) && (bif x.fKind == 3 then decide ((x.fValue.size:Int)≤100) else (x.fValue.size:Int) == 32)
theorem X0 (x:SThing):Vf x=some (TT x):=by
 simp only [Vf,Em,Jr,Option.bind_some,TT,bne]
 cases NM x.fId 1 1000 <;> cases NM x.fKind 1 3 <;> cases NM x.fNext 0 16 <;> cases (x.fKind == 2) <;> cases (x.fKind == 1) <;> cases (x.fKind == 3) <;> cases (x.fNext == 0) <;> cases x.fSigns <;> cases x.fWraps <;> rfl
theorem Ur {x:SThing} (h:TT x=true):1≤x.fKind∧x.fKind≤3∧1≤x.fId∧x.fId≤1000∧0≤x.fNext∧x.fNext≤16∧x.fValue.size≤100:=by
 unfold TT at h
 simp only [Bool.and_eq_true] at h
 obtain ⟨⟨⟨⟨⟨h1,h2⟩,h3⟩,_⟩,_⟩,h4⟩:=h
 rw [Nb] at h1 h2 h3
 refine ⟨h2.1,h2.2,h1.1,h1.2,h3.1,h3.2,?_⟩
 cases hk:x.fKind == 3
 ·rw [hk] at h4;simp at h4;omega
 ·rw [hk] at h4;simp at h4;omega
theorem Vr {s:ByteArray} (h:s ∈ [(⟨#[97]⟩:ByteArray),⟨#[98]⟩,⟨#[99]⟩]):s.size=1:=by
 simp only [List.mem_cons,List.not_mem_nil,or_false] at h
 rcases h with rfl | rfl | rfl <;> rfl
theorem Y0 {c:SL01Cur} (hc:RV c):Ok (Jf c) fun r=>TT r.1=true∧RV r.2:=by
 rw [Jf,Ql]
 refine Ok.bind (BZ hc) fun a ha=>Ok.bind (BZ ha.2) fun b hb=>Ok.bind (Nc hb.2) fun d hd=>Ok.bind (Nc hd) fun e he=>?_
 have a1:=ha.1.2.1 (by omega)
 have b1:=hb.1.2.1 (by omega)
 have hi:w64 (1+a.1)=1+a.1:=w64_id (by omega) (by omega)
 have hk:w64 (1+b.1)=1+b.1:=w64_id (by omega) (by omega)
 rw [hi,hk]
 have base:NM (1+a.1) 1 1000=true∧NM (1+b.1) 1 3=true:=⟨Nb.2 (by omega),Nb.2 (by omega)⟩
 have hd32:∀ s:ByteArray,((CZ s).size:Int) == 32:=fun s=>by rw [Pm];rfl
 refine Ok.cond (fun h3=>?_) fun h3=>Ok.cond (fun h2=>?_) fun h2=>?_
 ·refine Ok.bind (BZ he) fun f hf=>Ok.bind (Iq hf.2 hf.1.1) fun g hg=>Ok.ret ⟨?_,hg.2⟩
  have f1:=hf.1.2.1 (by omega)
  rw [beq_iff_eq] at h3
  rw [TT,base.1,base.2,h3,decide_eq_true (by have:=hg.1;omega:(g.1.size:Int)≤100)];rfl
 ·refine Ok.bind (BZ he) fun f hf=>Ok.bind (Nc hf.2) fun g hg=>Ok.bind (Sr hg (by decide)) fun t ht=>Ok.bind (Ok.eq (Um (by rw [Vr ht.1];decide))) fun v hv=>Ok.ret ⟨?_,ht.2⟩
  have f1:=hf.1.2.1 (by omega)
  subst hv
  rw [beq_iff_eq] at h2
  rw [TT,base.1,base.2,h2,Nb.2 (⟨hf.1.1,by omega⟩:0≤f.1∧f.1≤16)]
  simp only [hd32];rfl
 ·refine Ok.bind (Nc he) fun g hg=>Ok.bind (Sr hg (by decide)) fun t ht=>Ok.bind (Ok.eq (Um (by rw [Vr ht.1];decide))) fun v hv=>Ok.ret ⟨?_,ht.2⟩
  subst hv
  rw [beq_eq_false_iff_ne] at h3 h2
  have hk1:1+b.1=1:=by have:=Nb.1 base.2;omega
  rw [TT,base.1,base.2,hk1]
  simp only [hd32];rfl
theorem O1 {c:SL01Cur} (hc:RV c):Ok (Rf c) fun r=>(r.1.fValue.size≤200∧r.1.fId≤1001)∧RV r.2:=by
 rw [Rf,Sl]
 refine Ok.bind (Y0 hc) fun x hx=>Ok.bind (BZ hx.2) fun a ha=>?_
 have hs:=(Ur hx.1).2.2.2.2.2.2
 have hd:x.1.fId≤1001:=by have:=(Ur hx.1).2.2.2.1;omega
 refine Ok.cond (fun _=>Ok.bind (Xh ha.2 (by decide)) fun r hr=>Ok.ret ⟨?_,hr.2⟩) fun _=>Ok.cond (fun _=>Ok.bind (BZ ha.2) fun r hr=>Ok.ret ⟨?_,hr.2⟩) fun _=>Ok.cond (fun _=>Ok.ret ⟨?_,ha.2⟩) fun _=>Ok.cond (fun _=>Ok.ret ⟨?_,ha.2⟩) fun _=>
  Ok.cond (fun _=>Ok.bind (Xh ha.2 (by decide)) fun r hr=>Ok.ret ⟨?_,hr.2⟩) fun _=>Ok.cond (fun _=>Ok.bind (Xh ha.2 (by decide)) fun r hr=>?_) fun _=>Ok.ret ⟨?_,ha.2⟩
 ·refine ⟨by show x.1.fValue.size≤200;omega,?_⟩
  have:=hr.1
  simp only [List.mem_cons,List.not_mem_nil,or_false] at this
  show r.1≤1001;omega
 all_goals try exact ⟨by show x.1.fValue.size≤200;omega,hd⟩
 have h5:31≤r.1∧r.1≤101:=by
  have:=hr.1
  simp only [List.mem_cons,List.not_mem_nil,or_false] at this
  omega
 exact Ok.bind (Hq (by omega) (by omega)) fun s hs=>Ok.ret ⟨⟨by show s.size≤200;omega,hd⟩,hr.2⟩
theorem U1:Ok (Tf ()) fun _=>True:=by
 rw [Tf,Vl]
 exact Ok.bind Fq fun c hc=>Ok.bind (O1 hc) fun x _=>Ok.ret trivial
theorem Y1 (x:SThing):Ph x=some ⟨0,x.fKind,x.fHidden,x.fFixed,false,x.fWraps,x.fValue,0⟩:=rfl
theorem U2 (x a b:Int):Qh x a b=some (NM x a b):=by
 show (bif decide (a≤x) then some (decide (x≤b)) else some false)=some (NM x a b)
 unfold NM;cases decide (a≤x) <;> rfl
theorem Xr (x:SThing):Xa x=some (TT x):=by
 simp only [Xa,Yl,U2,Option.bind_some,TT,bne]
 by_cases k1:x.fKind=1
 ·rw [k1]
  cases NM x.fId 1 1000 <;> cases NM x.fNext 0 16 <;> cases (x.fNext == 0) <;> cases x.fSigns <;> cases x.fWraps <;> simp [NM]
 ·by_cases k2:x.fKind=2
  ·rw [k2]
   cases NM x.fId 1 1000 <;> cases NM x.fNext 0 16 <;> cases (x.fNext == 0) <;> cases x.fSigns <;> cases x.fWraps <;> simp [NM]
  ·by_cases k3:x.fKind=3
   ·rw [k3]
    cases NM x.fId 1 1000 <;> cases NM x.fNext 0 16 <;> cases (x.fNext == 0) <;> cases x.fSigns <;> cases x.fWraps <;> simp [NM]
   ·have hr:NM x.fKind 1 3=false:=by
     cases h:NM x.fKind 1 3
     ·rfl
     ·rw [Nb] at h;omega
    have e1:(x.fKind == 1)=false:=by simpa using k1
    have e2:(x.fKind == 2)=false:=by simpa using k2
    have e3:(x.fKind == 3)=false:=by simpa using k3
    rw [hr,e1,e2,e3]
    cases NM x.fId 1 1000 <;> cases NM x.fNext 0 16 <;> cases (x.fNext == 0) <;> cases x.fSigns <;> cases x.fWraps <;> rfl
def zT:SThing:=⟨0,0,false,false,false,false,⟨#[]⟩,0⟩
def D5 (x:SThing) (h f:Bool):SThing×Bool:=bif TT x && ((h || !x.fHidden) && (f || !x.fFixed)) then (⟨x.fId,x.fKind,h,f,x.fSigns,x.fWraps,x.fValue,x.fNext⟩,true) else (zT,false)
def Ci (x:SThing) (d:Int):Bool:=TT x && (bif d == 1 then !x.fHidden else bif d == 2 then !x.fFixed && !(x.fKind == 2) else bif d == 3 then x.fSigns else bif d == 4 then x.fWraps else d == 5)
theorem Y2 (x:SThing) (d:Int):Uf x d=some (Ci x d):=by
 rw [Uf,Am,Xr,Option.bind_some,Ci,bne]
 cases TT x <;> cases d == 1 <;> cases d == 2 <;> cases d == 3 <;> cases d == 4 <;> cases x.fFixed <;> rfl
theorem Yr (kind:Int) (data:ByteArray):((defaults kind data).2=true∧TT ⟨1,(defaults kind data).1.fKind,(defaults kind data).1.fHidden,(defaults kind data).1.fFixed,(defaults kind data).1.fSigns,(defaults kind data).1.fWraps,(defaults kind data).1.fValue,(defaults kind data).1.fNext⟩=true)∨((defaults kind data).2=false∧(kind<1∨kind > 3∨(data.size:Int) > 100)):=by
 by_cases h1:kind=1
 ·subst h1;exact .inl ⟨rfl,by show TT ⟨1,1,true,false,false,true,CZ data,0⟩=true;simp [TT,Pm,NM]⟩
 by_cases h2:kind=2
 ·subst h2;exact .inl ⟨rfl,by show TT ⟨1,2,true,false,true,false,CZ data,0⟩=true;simp [TT,Pm,NM]⟩
 have e1:(kind == 1)=false:=beq_eq_false_iff_ne.2 h1
 have e2:(kind == 2)=false:=beq_eq_false_iff_ne.2 h2
 by_cases h3:kind=3
 ·subst h3
  by_cases h:(data.size:Int)≤100
  ·have e:defaults 3 data=(⟨0,3,false,false,false,false,data,0⟩,true):=by rw [defaults,decide_eq_true h];rfl
   rw [e]
   exact .inl ⟨rfl,by show TT ⟨1,3,false,false,false,false,data,0⟩=true;simp [TT,NM];omega⟩
  ·have e:(defaults 3 data).2=false:=by rw [defaults,decide_eq_false h];rfl
   exact .inr ⟨e,by omega⟩
 ·have e3:(kind == 3)=false:=beq_eq_false_iff_ne.2 h3
  exact .inr ⟨by rw [defaults,e1,e2,e3];rfl,by omega⟩
theorem J3 {y:SThing} (h:TT y=true):TT ⟨1,y.fKind,y.fHidden,y.fFixed,false,y.fWraps,y.fValue,0⟩=true:=by
 simp only [TT,Bool.and_eq_true] at h
 obtain ⟨⟨⟨⟨⟨_,h2⟩,_⟩,_⟩,h5⟩,h6⟩:=h
 simp only [TT,Bool.and_eq_true]
 exact ⟨⟨⟨⟨⟨by decide,h2⟩,by decide⟩,by simp⟩,h5⟩,h6⟩
theorem law_FnDefaults (x0:Unit):laws_FnDefaults x0=some true:=by
 rw [laws_FnDefaults,Gm,Xv,Option.bind_some]
 cases decide ((codeL.length:Int) > 1048576)
 ·rw [cond_false]
  obtain ⟨⟨kind,data⟩,h1,hs⟩:=Ew
  obtain ⟨y,h2,_⟩:=U1
  have hs:data.size≤1000000000:=Nat.le_trans hs (by decide)
  have hm:Ci ⟨0,y.fKind,y.fHidden,y.fFixed,false,y.fWraps,y.fValue,0⟩ 3=false:=by rw [Ci];cases TT _ <;> rfl
  rw [h1,h2]
  simp only [Option.bind_some,U0 _ hs,O0 _ hs,Y1,Y2,Xr,X0,beq_self_eq_true,Bool.and_true,Bool.not_true,bne_self_eq_false,cond_false,hm]
  have last:(defaults kind data).2=false→(bif decide (kind<1) then some true else bif decide (kind > 3) then some true else some (decide ((data.size:Int) > 100)))=some true:=fun h=>by
   rcases Yr kind data with ⟨h',_⟩ | ⟨_,h'⟩
   ·rw [h'] at h;cases h
   ·rcases h' with h' | h' | h'
    ·rw [decide_eq_true h'];rfl
    ·rw [decide_eq_true h'];cases decide (kind<1) <;> rfl
    ·rw [decide_eq_true h'];cases decide (kind<1) <;> cases decide (kind > 3) <;> rfl
  have ry:=J3 (y:=y)
  rcases Yr kind data with ⟨h',h3⟩ | ⟨h',_⟩
  ·rw [h',h3]
   cases hy:TT y
   ·rfl
   ·rw [ry hy];rfl
  ·rw [h',last h']
   cases hy:TT y
   ·rfl
   ·rw [ry hy];rfl
 ·rfl
end Go.Proofs.YtjfkbidckphneaaDoor.G
