/- The plain law of FnSkips: whatever the arguments, it answers true. Conditions: what is read is in reach. Part 1 of 2. -/
import Derived.Test.YtnmmhkanpfmaaaaGreatDoorFFnSkips
import Derived.Test.YtnmmhkanpfmaaaaGreatDoorOpens
import Derived.Test.YtnmmhkanpfmaaaaGreatDoorPBase
namespace Go.Proofs.YtnmmhkanpfmaaaaGreatDoor.G
open Go Go.Ev
set_option linter.unusedVariables false
set_option linter.unusedSimpArgs false
set_option linter.unusedSectionVars false
variable [PC]
theorem p_laws_big (u:Unit):laws_big u=some (decide ((codeL.length:Int) > 1048576)):=rfl
def bs (s:ByteArray):List Int:=s.data.toList.map fun b=>(b.toNat:Int)
theorem bs_len (s:ByteArray):(bs s).length=s.size:=by unfold bs;rw [List.length_map];rfl
theorem bs_byte {s:ByteArray} {n:Int} (h:n ∈ bs s):0≤n∧n≤255:=by
 unfold bs at h;rw [List.mem_map] at h;obtain ⟨b,_,rfl⟩:=h
 have:=b.toNat_lt;omega
theorem bs_append (a b:ByteArray):bs (a++b)=bs a++bs b:=by simp [bs]
theorem ofBytes_bs (s:ByteArray):ofBytes (bs s)=s:=by
 cases s;simp [ofBytes,bs,Function.comp_def]
theorem bs_inj {s t:ByteArray} (h:bs s=bs t):s=t:=by rw [←ofBytes_bs s,h,ofBytes_bs]
theorem bs_ofBytes {l:List Int} (h:∀ n,n ∈ l→0≤n∧n≤255):bs (ofBytes l)=l:=by
 simp only [bs,ofBytes,List.map_map]
 conv=>rhs;rw [←List.map_id l]
 apply List.map_congr_left
 intro n hn
 obtain ⟨h1,h2⟩:=h n hn
 simp only [Function.comp,UInt8.toNat_ofNat',id]
 omega
theorem bt_eq {s:ByteArray} {i:Nat} (h:i<s.size):bt s (i:Int)=(bs s)[i]'(by rw [bs_len];exact h):=by
 simp only [bt,Int.toNat_natCast,h,dite_true,bs,List.getElem_map]
 rfl
theorem bt_byte (s:ByteArray) (i:Int):0≤bt s i∧bt s i≤255:=by
 unfold bt;split
 ·have:=(s[i.toNat]).toNat_lt;omega
 ·omega
theorem bs_extract (s:ByteArray) (i j:Nat):bs (s.extract i j)=((bs s).take j).drop i:=by
 simp only [bs,ByteArray.data_extract,Array.toList_extract,List.extract_eq_take_drop,List.map_take,List.map_drop]
 rw [List.drop_take]
theorem cond_t {α:Type} {c:Bool} {a b:α} (h:c=true):(bif c then a else b)=a:=by rw [h];rfl
theorem cond_f {α:Type} {c:Bool} {a b:α} (h:c=false):(bif c then a else b)=b:=by rw [h];rfl
theorem bt_getD {s:ByteArray} {i:Nat} (h:i<s.size):bt s (i:Int)=(bs s).getD i 0:=by rw [bt_eq h,getD_at]
theorem bt_at {s:ByteArray} {i:Int} {j:Nat} (e:i=(j:Int)) (h:j<s.size):bt s i=(bs s).getD j 0:=by rw [e,bt_getD h]
theorem getD_app1 {α:Type} {a b:List α} {i:Nat} (h:i<a.length) (d:α):(a++b).getD i d=a.getD i d:=by simp [List.getD,List.getElem?_append_left h]
theorem getD_app2 {α:Type} {a b:List α} {i:Nat} (h:a.length≤i) (d:α):(a++b).getD i d=b.getD (i - a.length) d:=by simp [List.getD,List.getElem?_append_right h]
theorem set_app {α:Type} {a b:List α} {x y:α} {i:Nat} (h:a.length=i):(a++x::b).set i y=a++y::b:=by
 rw [List.set_append_right _ _ (by omega),h,Nat.sub_self];rfl
theorem beq_t {a b:Nat} (h:a=b):Nat.beq a b=true:=by subst h;exact Nat.beq_refl _
theorem int_ex {P:Int→Prop} (n:Int) (h:0≤n) (k:∀ m:Nat,n=(m:Int)→P (m:Int)):P n:=by
 have:=k n.toNat (by omega)
 rwa [show ((n.toNat:Nat):Int)=n by omega] at this
theorem bs_nil:bs (⟨#[]⟩:ByteArray)=[]:=rfl
def Byt (l:List Int):Prop:=∀ n,n ∈ l→0≤n∧n≤255
theorem byt_getD {l:List Int} (h:Byt l) (i:Nat):0≤l.getD i 0∧l.getD i 0≤255:=by
 by_cases hi:i<l.length
 ·rw [getD_at hi];exact h _ (List.getElem_mem hi)
 ·have:l.getD i 0=0:=by simp [List.getD,List.getElem?_eq_none (Nat.le_of_not_lt hi)]
  omega
theorem byt_bs (s:ByteArray):Byt (bs s):=fun _ h=>bs_byte h
theorem bytesOf_bs (s:ByteArray):bytesOf s=bs s:=rfl
theorem getD_set {α:Type} {l:List α} {i:Nat} (h:i<l.length) (y d:α):(l.set i y).getD i d=y:=by simp [List.getD,h]
def Ok {α:Type} (x:Option α) (Q:α→Prop):Prop:=∃ a,x=some a∧Q a
theorem Ok.bind {α β:Type} {x:Option α} {f:α→Option β} {Q:α→Prop} {R:β→Prop} (h:Ok x Q) (k:∀ a,Q a→Ok (f a) R):Ok (x.bind f) R:=by
 obtain ⟨a,rfl,h⟩:=h;exact k a h
theorem Ok.cond {α:Type} {c:Bool} {a b:Option α} {R:α→Prop} (h1:c=true→Ok a R) (h2:c=false→Ok b R):Ok (bif c then a else b) R:=by
 cases c
 ·exact h2 rfl
 ·exact h1 rfl
theorem Ok.chk {α:Type} {c:Bool} {a:Option α} {R:α→Prop} (hc:c=true) (h1:Ok a R):Ok (bif c then a else none) R:=by rw [hc];exact h1
theorem Ok.ret {α:Type} {a:α} {R:α→Prop} (h:R a):Ok (some a) R:=⟨a,rfl,h⟩
theorem Ok.eq {α:Type} {x:Option α} {a:α} (h:x=some a):Ok x (fun b=>b=a):=⟨a,h,rfl⟩
theorem Ok.mono {α:Type} {x:Option α} {Q R:α→Prop} (h:Ok x Q) (k:∀ a,Q a→R a):Ok x R:=by obtain ⟨a,h1,h2⟩:=h;exact ⟨a,h1,k a h2⟩
def Cur (c:SL01Cur):Prop:=0≤c.fI
theorem w64_r (n:Int) : -9223372036854775808≤w64 n∧w64 n≤9223372036854775807:=by
 simp only [w64,IntKind.wrap,IntKind.signed,IntKind.bits]
 simp
 omega
theorem and255 (n:Int):0≤w64 ((BitVec.toNat (BitVec.ofInt (IntKind.bits IntKind.i64) n &&& BitVec.ofInt (IntKind.bits IntKind.i64) 255):Nat):Int)∧w64 ((BitVec.toNat (BitVec.ofInt (IntKind.bits IntKind.i64) n &&& BitVec.ofInt (IntKind.bits IntKind.i64) 255):Nat):Int)≤255:=by
 have h:(BitVec.ofInt (IntKind.bits IntKind.i64) n &&& BitVec.ofInt (IntKind.bits IntKind.i64) 255).toNat≤255:=by
  rw [BitVec.toNat_and]
  exact Nat.le_trans Nat.and_le_right (by decide)
 rw [w64_id (by omega) (by omega)]
 omega
theorem p_spec_l01New:Ok (spec_l01New ()) Cur:=by
 have hl:codeL.length≤140737488351232:=PC.hl
 have key:∀ (j i m:Nat) (h:Int),i+j=codeL.length→Ok (L_spec_l01New (m+j+1) (.c0 h (i:Int))) Cur:=by
  intro j
  induction j with
  | zero=>
   intro i m h hi
   rw [L_spec_l01New];simp only [B_spec_l01New]
   rw [cond_f (by simp;omega)]
   exact Ok.ret (Int.le_refl 0)
  | succ j ih=>
   intro i m h hi
   have hw:w64 ((i:Int)+1)=((i+1:Nat):Int):=by rw [w64_id (by omega) (by omega)];rfl
   rw [show m+(j+1)+1=(m+j+1)+1 from rfl,L_spec_l01New]
   simp only [B_spec_l01New,hw]
   refine Ok.cond (fun _=>Ok.cond (fun _=>?_) fun _=>Ok.ret (Int.le_refl 0)) fun _=>Ok.ret (Int.le_refl 0)
   refine Ok.chk (by simp;omega) (Ok.chk (by rw [Int.toNat_natCast];exact Nat.ble_eq_true_of_le (by omega)) (ih (i+1) m _ (by omega)))
 obtain ⟨m,hm⟩:∃ m,gas=m+codeL.length+1:=⟨gas - (codeL.length+1),by have:=gas_lt (n:=codeL.length+1) (by omega);omega⟩
 rw [spec_l01New,E_spec_l01New,hm]
 exact key codeL.length 0 m _ (Nat.zero_add _)
theorem p_spec_l01Byte {c:SL01Cur} (hc:Cur c):Ok (spec_l01Byte c) fun r=>0≤r.1∧r.1≤255∧Cur r.2:=by
 have hl:codeL.length≤140737488351232:=PC.hl
 have hc:0≤c.fI:=hc
 rw [spec_l01Byte,E_spec_l01Byte]
 refine Ok.cond (fun h=>?_) fun h=>Ok.ret ⟨(and255 _).1,(and255 _).2,hc⟩
 rw [decide_eq_true_eq] at h
 refine Ok.chk (by simp;omega) (Ok.chk (Nat.ble_eq_true_of_le (by omega)) (Ok.ret ⟨(and255 _).1,(and255 _).2,?_⟩))
 show 0≤w64 (c.fI+1)
 rw [w64_id (by omega) (by omega)];omega
theorem tmod_lt {a n:Int} (ha:0≤a) (hn:0<n):0≤a.tmod n∧a.tmod n<n:=⟨Int.tmod_nonneg _ ha,Int.tmod_lt_of_pos _ hn⟩
theorem p_spec_l01Below {c:SL01Cur} {n:Int} (hc:Cur c):Ok (spec_l01Below c n) fun r=>(0≤r.1∧(0<n→r.1<n)∧(n≤0→r.1=0))∧Cur r.2:=by
 rw [spec_l01Below,E_spec_l01Below]
 refine Ok.cond (fun h=>?_) fun h=>?_
 ·rw [decide_eq_true_eq] at h
  exact Ok.ret ⟨⟨Int.le_refl 0,fun h2=>h2,fun _=>rfl⟩,hc⟩
 ·rw [decide_eq_false_iff_not] at h
  have hn:(!(n == 0))=true:=by simp;omega
  refine Ok.cond (fun _=>?_) fun _=>?_
  ·refine Ok.bind (p_spec_l01Byte hc) fun a ha=>Ok.chk hn (Ok.ret ?_)
   have:=tmod_lt ha.1 (show 0<n by omega)
   exact ⟨⟨this.1,fun _=>this.2,fun h2=>by omega⟩,ha.2.2⟩
  ·refine Ok.bind (p_spec_l01Byte hc) fun a ha=>Ok.bind (p_spec_l01Byte ha.2.2) fun b hb=>Ok.bind (p_spec_l01Byte hb.2.2) fun d hd=>Ok.bind (p_spec_l01Byte hd.2.2) fun e he=>Ok.chk hn (Ok.ret ?_)
   obtain ⟨a1,a2,_⟩:=ha
   obtain ⟨b1,b2,_⟩:=hb
   obtain ⟨d1,d2,_⟩:=hd
   obtain ⟨e1,e2,e3⟩:=he
   have hw:w64 (w64 (w64 (w64 (a.1*16777216)+w64 (b.1*65536))+w64 (d.1*256))+e.1)=a.1*16777216+b.1*65536+d.1*256+e.1:=by
    rw [w64_id (n:=a.1*16777216) (by omega) (by omega),w64_id (n:=b.1*65536) (by omega) (by omega),w64_id (n:=d.1*256) (by omega) (by omega),w64_id (n:=a.1*16777216+b.1*65536) (by omega) (by omega),w64_id (n:=a.1*16777216+b.1*65536+d.1*256) (by omega) (by omega),w64_id (by omega) (by omega)]
   have:=tmod_lt (show 0≤a.1*16777216+b.1*65536+d.1*256+e.1 by omega) (show 0<n by omega)
   simp only [hw]
   exact ⟨⟨this.1,fun _=>this.2,fun h2=>by omega⟩,e3⟩
theorem p_spec_DrawPlaces:Ok (spec_DrawPlaces ()) fun r=>r.length=12∧∀ x ∈ r,0≤x∧x<10000:=by
 have key:∀ (j i m:Nat) (a h:Int) (l:List Int),i+j=12→0≤a→l.length=i→(∀ x ∈ l,0≤x∧x<10000)→Ok (L_spec_DrawPlaces (m+j+1) (.c0 (i:Int) a h l)) fun r=>r.length=12∧∀ x ∈ r,0≤x∧x<10000:=by
  intro j
  induction j with
  | zero=>
   intro i m a h l hi ha hl hx
   rw [L_spec_DrawPlaces];simp only [B_spec_DrawPlaces]
   rw [cond_f (by rw [decide_eq_false_iff_not];omega)]
   exact Ok.ret ⟨by omega,hx⟩
  | succ j ih=>
   intro i m a h l hi ha hl hx
   have hw:w64 ((i:Int)+1)=((i+1:Nat):Int):=by rw [w64_id (by omega) (by omega)];rfl
   rw [show m+(j+1)+1=(m+j+1)+1 from rfl,L_spec_DrawPlaces]
   simp only [B_spec_DrawPlaces,hw]
   rw [cond_t (by rw [decide_eq_true_eq];omega)]
   refine Ok.bind (p_spec_l01Below (c:=⟨(),a,h⟩) ha) fun n hn=>Ok.chk (by rw [decide_eq_true_eq];omega) (ih (i+1) m _ _ _ (by omega) hn.2 (by rw [List.length_append,List.length_singleton];omega) fun x hx2=>?_)
   rcases List.mem_append.1 hx2 with hx2 | hx2
   ·exact hx x hx2
   ·rw [List.mem_singleton] at hx2;rw [hx2];exact ⟨hn.1.1,hn.1.2.1 (by omega)⟩
 rw [spec_DrawPlaces,E_spec_DrawPlaces]
 refine Ok.bind p_spec_l01New fun c hc=>Ok.bind (p_spec_l01Byte hc) fun r hr=>?_
 obtain ⟨m,hm⟩:∃ m,gas=m+12+1:=⟨gas - 13,rfl⟩
 rw [hm]
 exact key 12 0 m _ _ [] rfl hr.2.2 rfl fun x hx=>by cases hx
theorem w32_mod {n:Int}:w32 n=n % 4294967296:=by
 simp only [w32,IntKind.wrap,IntKind.signed,IntKind.bits]
 simp
theorem w32_id {n:Int} (h1:0≤n) (h2:n<4294967296):w32 n=n:=by rw [w32_mod];omega
def R32 (n:Int):Prop:=0≤n∧n<4294967296
theorem r32_w (n:Int):R32 (w32 n):=by unfold R32;rw [w32_mod];omega
theorem r32_byte {n:Int} (h:0≤n∧n≤255):R32 n:=by unfold R32;omega
def xr (x y:Int):Int:=w32 (((BitVec.toNat ((BitVec.ofInt (IntKind.bits IntKind.u32) x) ^^^ (BitVec.ofInt (IntKind.bits IntKind.u32) y))):Nat):Int)
def an (x y:Int):Int:=w32 (((BitVec.toNat ((BitVec.ofInt (IntKind.bits IntKind.u32) x) &&& (BitVec.ofInt (IntKind.bits IntKind.u32) y))):Nat):Int)
def ort (x y:Int):Int:=w32 (((BitVec.toNat ((BitVec.ofInt (IntKind.bits IntKind.u32) x) ||| (BitVec.ofInt (IntKind.bits IntKind.u32) y))):Nat):Int)
theorem xr_e (x y:Int):w32 (((BitVec.toNat ((BitVec.ofInt (IntKind.bits IntKind.u32) x) ^^^ (BitVec.ofInt (IntKind.bits IntKind.u32) y))):Nat):Int)=xr x y:=rfl
theorem an_e (x y:Int):w32 (((BitVec.toNat ((BitVec.ofInt (IntKind.bits IntKind.u32) x) &&& (BitVec.ofInt (IntKind.bits IntKind.u32) y))):Nat):Int)=an x y:=rfl
theorem ort_e (x y:Int):w32 (((BitVec.toNat ((BitVec.ofInt (IntKind.bits IntKind.u32) x) ||| (BitVec.ofInt (IntKind.bits IntKind.u32) y))):Nat):Int)=ort x y:=rfl
theorem r32_xr (x y:Int):R32 (xr x y):=r32_w _
theorem r32_an (x y:Int):R32 (an x y):=r32_w _
theorem ort_add {a b:Nat} {s:Nat} (hb:b<2 ^ s) (ha:a*2 ^ s<4294967296) (hs:b<4294967296):ort ((a*2 ^ s:Nat):Int) (b:Int)=((a*2 ^ s+b:Nat):Int):=by
 have e:a*2 ^ s ||| b=a*2 ^ s+b:=by
  have:=Nat.shiftLeft_add_eq_or_of_lt hb a
  rw [Nat.shiftLeft_eq] at this
  exact this.symm
 unfold ort
 have h3:a*2 ^ s ||| b<2 ^ 32:=Nat.or_lt_two_pow (by omega) (by omega)
 rw [BitVec.toNat_or]
 show w32 (((BitVec.ofInt 32 _).toNat ||| (BitVec.ofInt 32 _).toNat:Nat):Int)=_
 rw [BitVec.ofInt_natCast,BitVec.ofInt_natCast,BitVec.toNat_ofNat,BitVec.toNat_ofNat,Nat.mod_eq_of_lt (by omega),Nat.mod_eq_of_lt (by omega),e]
 rw [e] at h3
 exact w32_id (by omega) (by omega)
theorem xr_max {e:Int} (h:R32 e):xr (ite ((IntKind.signed IntKind.u32)=true) (-(1:Int)) (IntKind.max IntKind.u32)) e=w32 (4294967295 - e):=by
 obtain ⟨h1,h2⟩:=h
 obtain ⟨n,rfl⟩:∃ n:Nat,e=(n:Int):=⟨e.toNat,by omega⟩
 have hn:n<4294967296:=by omega
 have e1:(ite ((IntKind.signed IntKind.u32)=true) (-(1:Int)) (IntKind.max IntKind.u32))=4294967295:=by decide
 rw [e1]
 unfold xr
 show w32 (((BitVec.ofInt 32 4294967295 ^^^ BitVec.ofInt 32 (n:Int)).toNat:Nat):Int)=_
 have e2:BitVec.ofInt 32 4294967295=BitVec.allOnes 32:=by decide
 rw [e2,BitVec.ofInt_natCast,BitVec.allOnes_xor,BitVec.toNat_not,BitVec.toNat_ofNat]
 rw [w32_mod,w32_mod]
 omega
def rt (low high x:Int):Int:=x / low+x % low*high
theorem r32_rt {low high x:Int} (h:R32 x) (hl:0<low) (hh:0<high) (hlh:low*high=4294967296):R32 (rt low high x):=by
 unfold R32 rt at *
 have h1:0≤x / low:=Int.ediv_nonneg h.1 (by omega)
 have h2:0≤x % low:=Int.emod_nonneg _ (by omega)
 have h3:x % low<low:=Int.emod_lt_of_pos _ hl
 have h4:x / low<high:=Int.ediv_lt_of_lt_mul hl (by rw [Int.mul_comm,hlh];exact h.2)
 have h5:0≤x % low*high:=Int.mul_nonneg h2 (by omega)
 have h6:x % low*high≤(low - 1)*high:=Int.mul_le_mul_of_nonneg_right (by omega) (by omega)
 have h7:(low - 1)*high=low*high - high:=by rw [Int.sub_mul,Int.one_mul]
 omega
theorem rt_or {x:Int} (h:R32 x) (n:Nat) (hn:0<n) (hn2:n<32):ort (w32 (x*2 ^ (32 - n))) (x / 2 ^ n)=rt (2 ^ n) (2 ^ (32 - n)) x:=by
 obtain ⟨h1,h2⟩:=h
 obtain ⟨y,rfl⟩:∃ y:Nat,x=(y:Int):=⟨x.toNat,by omega⟩
 have hy:y<4294967296:=by omega
 have e0:(4294967296:Nat)=2 ^ n*2 ^ (32 - n):=by rw [←Nat.pow_add,show n+(32 - n)=32 by omega]
 have e1:w32 ((y:Int)*2 ^ (32 - n))=((y % 2 ^ n*2 ^ (32 - n):Nat):Int):=by
  rw [w32_mod]
  have h5:((y:Int)*2 ^ (32 - n))=((y*2 ^ (32 - n):Nat):Int):=by push_cast;rfl
  have h6:y*2 ^ (32 - n) % 4294967296=y % 2 ^ n*2 ^ (32 - n):=by rw [e0,Nat.mul_mod_mul_right]
  rw [h5,←h6]
  omega
 have e2:((y:Int) / 2 ^ n)=((y / 2 ^ n:Nat):Int):=by push_cast;rfl
 have hp:0<2 ^ n:=Nat.two_pow_pos n
 have hp2:0<2 ^ (32 - n):=Nat.two_pow_pos _
 have hm:y % 2 ^ n<2 ^ n:=Nat.mod_lt _ hp
 have hd:y / 2 ^ n<2 ^ (32 - n):=Nat.div_lt_of_lt_mul (by rw [←e0];exact hy)
 rw [e1,e2,ort_add hd (by rw [e0];exact Nat.mul_lt_mul_of_pos_right hm hp2) (Nat.lt_of_le_of_lt (Nat.div_le_self _ _) hy)]
 unfold rt
 push_cast
 omega
def sg0 (x:Int):Int:=xr (xr (rt 128 33554432 x) (rt 262144 16384 x)) (x / 8)
def sg1 (x:Int):Int:=xr (xr (rt 131072 32768 x) (rt 524288 8192 x)) (x / 1024)
def ep1 (x:Int):Int:=xr (xr (rt 64 67108864 x) (rt 2048 2097152 x)) (rt 33554432 128 x)
def ep0 (x:Int):Int:=xr (xr (rt 4 1073741824 x) (rt 8192 524288 x)) (rt 4194304 1024 x)
def nextW (w:List Int) (t:Nat):Int:=w32 (w32 (w32 (sg1 (w.getD (t - 2) 0)+w.getD (t - 7) 0)+sg0 (w.getD (t - 15) 0))+w.getD (t - 16) 0)
def sched (w:List Int):Nat→List Int
 | 0=>w
 | n+1=>sched w n++[nextW (sched w n) (16+n)]
theorem sched_len {w:List Int} (h:w.length=16) (n:Nat):(sched w n).length=16+n:=by
 induction n with
 | zero=>exact h
 | succ n ih=>simp [sched,ih];omega
theorem sched_r {w:List Int} (h:∀ x ∈ w,R32 x) (n:Nat):∀ x ∈ sched w n,R32 x:=by
 induction n with
 | zero=>exact h
 | succ n ih=>
  intro x hx
  rw [sched,List.mem_append,List.mem_singleton] at hx
  rcases hx with hx | rfl
  ·exact ih x hx
  ·exact r32_w _
theorem r_getD {l:List Int} (h:∀ x ∈ l,R32 x) (i:Nat):R32 (l.getD i 0):=by
 by_cases hi:i<l.length
 ·rw [getD_at hi];exact h _ (List.getElem_mem hi)
 ·have:l.getD i 0=0:=by simp [List.getD,List.getElem?_eq_none (Nat.le_of_not_lt hi)]
  rw [this];unfold R32;omega
structure Reg where
 a:Int
 b:Int
 c:Int
 d:Int
 e:Int
 f:Int
 g:Int
 h:Int
def Reg.ok (r:Reg):Prop:=R32 r.a∧R32 r.b∧R32 r.c∧R32 r.d∧R32 r.e∧R32 r.f∧R32 r.g∧R32 r.h
def Reg.l (r:Reg):List Int:=[r.a,r.b,r.c,r.d,r.e,r.f,r.g,r.h]
theorem Reg.l_len (r:Reg):r.l.length=8:=rfl
def t1 (r:Reg) (k w:Int):Int:=w32 (w32 (w32 (w32 (r.h+ep1 r.e)+xr (an r.e r.f) (an (w32 (4294967295 - r.e)) r.g))+k)+w)
def t2 (r:Reg):Int:=w32 (ep0 r.a+xr (xr (an r.a r.b) (an r.a r.c)) (an r.b r.c))
def rnd (r:Reg) (k w:Int):Reg:=⟨w32 (t1 r k w+t2 r),r.a,r.b,r.c,w32 (r.d+t1 r k w),r.e,r.f,r.g⟩
theorem rnd_ok {r:Reg} (h:r.ok) (k w:Int):(rnd r k w).ok:=⟨r32_w _,h.1,h.2.1,h.2.2.1,r32_w _,h.2.2.2.2.1,h.2.2.2.2.2.1,h.2.2.2.2.2.2.1⟩
def rnds (K W:List Int) (r:Reg):Nat→Reg
 | 0=>r
 | n+1=>rnd (rnds K W r n) (K.getD n 0) (W.getD n 0)
theorem rnds_ok (K W:List Int) {r:Reg} (h:r.ok) (n:Nat):(rnds K W r n).ok:=by
 induction n with
 | zero=>exact h
 | succ n ih=>exact rnd_ok ih _ _
def regAdd (s r:Reg):Reg:=⟨w32 (s.a+r.a),w32 (s.b+r.b),w32 (s.c+r.c),w32 (s.d+r.d),w32 (s.e+r.e),w32 (s.f+r.f),w32 (s.g+r.g),w32 (s.h+r.h)⟩
theorem regAdd_ok (s r:Reg):(regAdd s r).ok:=⟨r32_w _,r32_w _,r32_w _,r32_w _,r32_w _,r32_w _,r32_w _,r32_w _⟩
def keysL:List Int:=[1116352408,1899447441,3049323471,3921009573,961987163,1508970993,2453635748,2870763221,3624381080,310598401,607225278,1426881987,1925078388,2162078206,2614888103,3248222580,3835390401,4022224774,264347078,604807628,770255983,1249150122,1555081692,1996064986,2554220882,2821834349,2952996808,3210313671,3336571891,3584528711,113926993,338241895,666307205,773529912,1294757372,1396182291,1695183700,1986661051,2177026350,2456956037,2730485921,2820302411,3259730800,3345764771,3516065817,3600352804,4094571909,275423344,430227734,506948616,659060556,883997877,958139571,1322822218,1537002063,1747873779,1955562222,2024104815,2227730452,2361852424,2428436474,2756734187,3204031479,3329325298]
def be4 (a b c d:Int):Int:=a*16777216+b*65536+c*256+d
def wordAt (l:List Int) (i:Nat):Int:=be4 (l.getD (4*i) 0) (l.getD (4*i+1) 0) (l.getD (4*i+2) 0) (l.getD (4*i+3) 0)
def wordsN (l:List Int) (n:Nat):List Int:=(List.range n).map (wordAt l)
theorem wordsN_len (l:List Int) (n:Nat):(wordsN l n).length=n:=by simp [wordsN]
theorem wordsN_succ (l:List Int) (n:Nat):wordsN l (n+1)=wordsN l n++[wordAt l n]:=by simp [wordsN,List.range_succ]
theorem be4_r {a b c d:Int} (ha:0≤a∧a≤255) (hb:0≤b∧b≤255) (hc:0≤c∧c≤255) (hd:0≤d∧d≤255):R32 (be4 a b c d):=by unfold R32 be4;omega
theorem wordAt_r {l:List Int} (h:Byt l) (i:Nat):R32 (wordAt l i):=be4_r (byt_getD h _) (byt_getD h _) (byt_getD h _) (byt_getD h _)
theorem wordsN_r {l:List Int} (h:Byt l) (n:Nat):∀ x ∈ wordsN l n,R32 x:=by
 intro x hx
 simp only [wordsN,List.mem_map] at hx
 obtain ⟨i,_,rfl⟩:=hx
 exact wordAt_r h i
def comp (s:Reg) (b:List Int):Reg:=regAdd s (rnds keysL (sched (wordsN b 16) 48) s 64)
theorem comp_ok (s:Reg) (b:List Int):(comp s b).ok:=regAdd_ok _ _
def comps:Nat→Reg→List Int→Reg
 | 0,s,_=>s
 | n+1,s,b=>comps n (comp s (b.take 64)) (b.drop 64)
theorem comps_ok {s:Reg} (h:s.ok):∀ (n:Nat) (b:List Int),(comps n s b).ok:=by
 intro n
 induction n generalizing s with
 | zero=>intro b;exact h
 | succ n ih=>intro b;exact ih (comp_ok _ _) _
theorem comps_add (n m:Nat):∀ (s:Reg) (b:List Int),comps (n+m) s b=comps m (comps n s b) (b.drop (64*n)):=by
 induction n with
 | zero=>intro s b;simp [comps]
 | succ n ih=>
  intro s b
  rw [Nat.add_right_comm,comps,comps,ih,List.drop_drop]
  congr 2
  omega
theorem comps_app (n:Nat):∀ (s:Reg) (b c:List Int),64*n≤b.length→comps n s (b++c)=comps n s b:=by
 induction n with
 | zero=>intro s b c _;rfl
 | succ n ih=>
  intro s b c h
  rw [comps,comps,List.take_append_of_le_length (by omega),List.drop_append_of_le_length (by omega),ih _ _ _ (by simp;omega)]
def four (x:Int):List Int:=[x / 16777216,x / 65536 % 256,x / 256 % 256,x % 256]
theorem four_byt {x:Int} (h:R32 x):Byt (four x):=by
 intro n hn
 unfold R32 at h
 simp only [four,List.mem_cons,List.not_mem_nil,or_false] at hn
 rcases hn with rfl | rfl | rfl | rfl <;> omega
def bytesL (ws:List Int):List Int:=ws.flatMap four
theorem bytesL_len (ws:List Int):(bytesL ws).length=4*ws.length:=by
 induction ws with
 | nil=>rfl
 | cons w ws ih=>
  rw [show bytesL (w::ws)=four w++bytesL ws from rfl,List.length_append,ih]
  simp only [four,List.length_cons,List.length_nil];omega
theorem bytesL_byt {ws:List Int} (h:∀ x ∈ ws,R32 x):Byt (bytesL ws):=by
 intro n hn
 simp only [bytesL,List.mem_flatMap] at hn
 obtain ⟨x,hx,hn⟩:=hn
 exact four_byt (h x hx) n hn
theorem bytesL_app (a b:List Int):bytesL (a++b)=bytesL a++bytesL b:=by simp [bytesL]
theorem be4_four {x:Int} (h:R32 x):be4 (x / 16777216) (x / 65536 % 256) (x / 256 % 256) (x % 256)=x:=by unfold R32 at h;unfold be4;omega
theorem wordAt_bytesL:∀ {ws:List Int} (_:∀ x ∈ ws,R32 x) {i:Nat} (hi:i<ws.length),wordAt (bytesL ws) i=ws[i]
 | w::ws,h,0,_=>by
  have:=be4_four (h w (List.mem_cons_self ..))
  simpa [wordAt,bytesL,four] using this
 | w::ws,h,i+1,hi=>by
  have ih:=wordAt_bytesL (ws:=ws) (fun x hx=>h x (List.mem_cons_of_mem _ hx)) (i:=i) (by simpa using hi)
  rw [List.getElem_cons_succ,←ih]
  have e:∀ j,(bytesL (w::ws)).getD (j+4) 0=(bytesL ws).getD j 0:=fun j=>by simp [bytesL,four,List.getD]
  unfold wordAt
  rw [show 4*(i+1)=4*i+4 by omega,show 4*i+4+1=(4*i+1)+4 by omega,show 4*i+4+2=(4*i+2)+4 by omega,show 4*i+4+3=(4*i+3)+4 by omega,e,e,e,e]
theorem wordsN_bytesL {ws:List Int} (h:∀ x ∈ ws,R32 x):wordsN (bytesL ws) ws.length=ws:=by
 apply List.ext_getElem
 ·rw [wordsN_len]
 ·intro i h1 h2
  simp only [wordsN,List.getElem_map,List.getElem_range]
  exact wordAt_bytesL h h2
theorem Reg.l_r {r:Reg} (h:r.ok):∀ x ∈ r.l,R32 x:=by
 intro x hx
 simp only [Reg.l,List.mem_cons,List.not_mem_nil,or_false] at hx
 obtain ⟨h1,h2,h3,h4,h5,h6,h7,h8⟩:=h
 rcases hx with rfl | rfl | rfl | rfl | rfl | rfl | rfl | rfl <;> assumption
def reg0:Reg:=⟨1779033703,3144134277,1013904242,2773480762,1359893119,2600822924,528734635,1541459225⟩
theorem reg0_ok:reg0.ok:=by unfold Reg.ok R32 reg0;decide
def big8 (n:Int):List Int:=[0,0,0,n / 4294967296 % 256,n / 16777216 % 256,n / 65536 % 256,n / 256 % 256,n % 256]
def endL (n:Nat):List Int:=128::(List.replicate ((119 - n % 64) % 64) 0++big8 (8*(n:Int)))
theorem endL_len (n:Nat):(endL n).length=9+(119 - n % 64) % 64:=by simp [endL,big8];omega
theorem end_whole (n:Nat):(n+(endL n).length) % 64=0:=by rw [endL_len];omega
theorem endL_byt (n:Nat):Byt (endL n):=by
 intro x hx
 simp only [endL,big8,List.mem_cons,List.mem_append,List.mem_replicate,List.not_mem_nil,or_false] at hx
 omega
def digL (b:List Int):List Int:=bytesL (comps ((b.length+(endL b.length).length) / 64) reg0 (b++endL b.length)).l
def dig (s:ByteArray):ByteArray:=ofBytes (digL (bs s))
theorem digL_len (b:List Int):(digL b).length=32:=by rw [digL,bytesL_len];rfl
theorem digL_byt (b:List Int):Byt (digL b):=bytesL_byt (Reg.l_r (comps_ok reg0_ok _ _))
theorem dig_size (s:ByteArray):(dig s).size=32:=by rw [dig,ofBytes_size,digL_len]
theorem bs_dig (s:ByteArray):bs (dig s)=digL (bs s):=bs_ofBytes (digL_byt _)
def Ja {α:Type} (n:Nat) (f:Nat→α):α:=match n with
 | 0=>f 0
 | n+1=>f (n+1)
theorem Bl {α:Type} (n:Nat) (f:Nat→α):Ja n f=f n:=by cases n <;> rfl
def GZ (l h x:Nat):Nat:=Nat.add (Nat.div x l) (Nat.mul (Nat.mod x l) h)
def Tq (x:Nat):Nat:=Nat.xor (Nat.xor (GZ 128 33554432 x) (GZ 262144 16384 x)) (Nat.div x 8)
def Vq (x:Nat):Nat:=Nat.xor (Nat.xor (GZ 131072 32768 x) (GZ 524288 8192 x)) (Nat.div x 1024)
def Wq (x:Nat):Nat:=Nat.xor (Nat.xor (GZ 64 67108864 x) (GZ 2048 2097152 x)) (GZ 33554432 128 x)
def Xq (x:Nat):Nat:=Nat.xor (Nat.xor (GZ 4 1073741824 x) (GZ 8192 524288 x)) (GZ 4194304 1024 x)
theorem NZ {x y:Nat} (hx:x<4294967296) (hy:y<4294967296):xr (x:Int) (y:Int)=((Nat.xor x y:Nat):Int):=by
 unfold xr
 show w32 (((BitVec.ofInt 32 (x:Int) ^^^ BitVec.ofInt 32 (y:Int)).toNat:Nat):Int)=_
 rw [BitVec.toNat_xor,BitVec.ofInt_natCast,BitVec.ofInt_natCast,BitVec.toNat_ofNat,BitVec.toNat_ofNat,Nat.mod_eq_of_lt (by omega),Nat.mod_eq_of_lt (by omega)]
 have h:x ^^^ y<2 ^ 32:=Nat.xor_lt_two_pow (by omega) (by omega)
 exact w32_id (by omega) (by omega)
theorem Dl {x y:Nat} (hx:x<4294967296) (hy:y<4294967296):an (x:Int) (y:Int)=((Nat.land x y:Nat):Int):=by
 unfold an
 show w32 (((BitVec.ofInt 32 (x:Int) &&& BitVec.ofInt 32 (y:Int)).toNat:Nat):Int)=_
 rw [BitVec.toNat_and,BitVec.ofInt_natCast,BitVec.ofInt_natCast,BitVec.toNat_ofNat,BitVec.toNat_ofNat,Nat.mod_eq_of_lt (by omega),Nat.mod_eq_of_lt (by omega)]
 have h:x &&& y≤x:=Nat.and_le_left
 exact w32_id (by omega) (by omega)
theorem OZ (l h x:Nat):rt (l:Int) (h:Int) (x:Int)=((GZ l h x:Nat):Int):=by
 unfold rt GZ
 show _=((x / l+x % l*h:Nat):Int)
 rw [Int.natCast_add,Int.natCast_mul,Int.natCast_ediv,Int.natCast_emod]
theorem XZ {l h x:Nat} (hx:x<4294967296) (hl:0<l) (hh:0<h) (hlh:l*h=4294967296):GZ l h x<4294967296:=by
 have:=r32_rt (low:=(l:Int)) (high:=(h:Int)) (x:=(x:Int)) ⟨by omega,by omega⟩ (by omega) (by omega) (by rw [←Int.natCast_mul,hlh];rfl)
 rw [OZ] at this
 have:=this.2
 omega
theorem Gl {x y:Nat} (hx:x<4294967296) (hy:y<4294967296):Nat.xor x y<4294967296:=Nat.xor_lt_two_pow (n:=32) hx hy
theorem UAK {x:Nat} (hx:x<4294967296):sg0 (x:Int)=((Tq x:Nat):Int):=by
 unfold sg0 Tq
 have h1:=OZ 128 33554432 x
 have h2:=OZ 262144 16384 x
 have l1:=XZ (l:=128) (h:=33554432) hx (by decide) (by decide) (by decide)
 have l2:=XZ (l:=262144) (h:=16384) hx (by decide) (by decide) (by decide)
 have e3:(x:Int) / 8=((Nat.div x 8:Nat):Int):=by show _=((x / 8:Nat):Int);omega
 rw [show rt 128 33554432 (x:Int)=_ from h1,show rt 262144 16384 (x:Int)=_ from h2,e3,NZ l1 l2,NZ (Gl l1 l2) (by show x / 8<_;omega)]
theorem VAK {x:Nat} (hx:x<4294967296):sg1 (x:Int)=((Vq x:Nat):Int):=by
 unfold sg1 Vq
 have l1:=XZ (l:=131072) (h:=32768) hx (by decide) (by decide) (by decide)
 have l2:=XZ (l:=524288) (h:=8192) hx (by decide) (by decide) (by decide)
 have e3:(x:Int) / 1024=((Nat.div x 1024:Nat):Int):=by show _=((x / 1024:Nat):Int);omega
 rw [show rt 131072 32768 (x:Int)=_ from OZ 131072 32768 x,show rt 524288 8192 (x:Int)=_ from OZ 524288 8192 x,e3,NZ l1 l2,NZ (Gl l1 l2) (by show x / 1024<_;omega)]
theorem WAK {x:Nat} (hx:x<4294967296):ep1 (x:Int)=((Wq x:Nat):Int):=by
 unfold ep1 Wq
 have l1:=XZ (l:=64) (h:=67108864) hx (by decide) (by decide) (by decide)
 have l2:=XZ (l:=2048) (h:=2097152) hx (by decide) (by decide) (by decide)
 have l3:=XZ (l:=33554432) (h:=128) hx (by decide) (by decide) (by decide)
 rw [show rt 64 67108864 (x:Int)=_ from OZ 64 67108864 x,show rt 2048 2097152 (x:Int)=_ from OZ 2048 2097152 x,show rt 33554432 128 (x:Int)=_ from OZ 33554432 128 x,NZ l1 l2,NZ (Gl l1 l2) l3]
theorem XAK {x:Nat} (hx:x<4294967296):ep0 (x:Int)=((Xq x:Nat):Int):=by
 unfold ep0 Xq
 have l1:=XZ (l:=4) (h:=1073741824) hx (by decide) (by decide) (by decide)
 have l2:=XZ (l:=8192) (h:=524288) hx (by decide) (by decide) (by decide)
 have l3:=XZ (l:=4194304) (h:=1024) hx (by decide) (by decide) (by decide)
 rw [show rt 4 1073741824 (x:Int)=_ from OZ 4 1073741824 x,show rt 8192 524288 (x:Int)=_ from OZ 8192 524288 x,show rt 4194304 1024 (x:Int)=_ from OZ 4194304 1024 x,NZ l1 l2,NZ (Gl l1 l2) l3]
def cr (a b c d e f g h:Nat):Reg:=⟨a,b,c,d,e,f,g,h⟩
def nx (e f g h k w:Nat):Nat:=Nat.mod (Nat.add (Nat.add (Nat.add (Nat.add h (Wq e)) (Nat.xor (Nat.land e f) (Nat.land (Nat.sub 4294967295 e) g))) k) w) 4294967296
def ny (a b c:Nat):Nat:=Nat.add (Xq a) (Nat.xor (Nat.xor (Nat.land a b) (Nat.land a c)) (Nat.land b c))
def nw (w0 w1 w9 w14:Nat):Nat:=Nat.mod (Nat.add (Nat.add (Nat.add (Vq w14) w9) (Tq w1)) w0) 4294967296
def Yq:List Nat→Nat→Nat→Nat→Nat→Nat→Nat→Nat→Nat→Nat→Nat→Nat→Nat→Nat→Nat→Nat→Nat→Nat→Nat→Nat→Nat→Nat→Nat→Nat→Nat→Nat
 | [],_,_,_,_,_,_,_,_,_,_,_,_,_,_,_,_,a,_,_,_,_,_,_,_=>a
 | k::ks,w0,w1,w2,w3,w4,w5,w6,w7,w8,w9,wa,wb,wc,wd,we,wf,a,b,c,d,e,f,g,h=>
  Ja (nw w0 w1 w9 we) fun n=>Ja (nx e f g h k w0) fun x=>Ja (Nat.mod (Nat.add x (ny a b c)) 4294967296) fun y=>Ja (Nat.mod (Nat.add d x) 4294967296) fun z=>
  Yq ks w1 w2 w3 w4 w5 w6 w7 w8 w9 wa wb wc wd we wf n y a b c z e f g
def YZ:List Nat:=keysL.map Int.toNat
theorem YAK (x:Nat):w32 (x:Int)=((x % 4294967296:Nat):Int):=by rw [w32_mod];omega
theorem Uc {x y:Nat} (hx:x<4294967296):Nat.land x y<4294967296:=Nat.lt_of_le_of_lt Nat.and_le_left hx
theorem ZAK {a b c d e f g h k w:Nat} (ha:a<4294967296) (hb:b<4294967296) (hc:c<4294967296) (he:e<4294967296) (hf:f<4294967296) (hg:g<4294967296) :
  rnd (cr a b c d e f g h) (k:Int) (w:Int)=cr ((nx e f g h k w+ny a b c) % 4294967296) a b c ((d+nx e f g h k w) % 4294967296) e f g:=by
 have h1:t1 (cr a b c d e f g h) (k:Int) (w:Int)=((nx e f g h k w:Nat):Int):=by
  unfold t1 nx cr
  dsimp only
  have hc2:w32 (4294967295 - (e:Int))=((4294967295 - e:Nat):Int):=by rw [w32_mod];omega
  rw [WAK he,Dl he hf,hc2,Dl (by omega) hg,NZ (Uc he) (Uc (by omega))]
  generalize Nat.xor (Nat.land e f) (Nat.land (4294967295 - e) g)=q
  simp only [w32_mod]
  show _=(((h+Wq e+q+k+w) % 4294967296:Nat):Int)
  omega
 have h2:t2 (cr a b c d e f g h)=((ny a b c % 4294967296:Nat):Int):=by
  unfold t2 ny cr
  dsimp only
  rw [XAK ha,Dl ha hb,Dl ha hc,Dl hb hc,NZ (Uc ha) (Uc ha),NZ (Gl (Uc ha) (Uc ha)) (Uc hb)]
  generalize Nat.xor (Nat.xor (Nat.land a b) (Nat.land a c)) (Nat.land b c)=q
  rw [w32_mod]
  show _=(((Xq a+q) % 4294967296:Nat):Int)
  omega
 unfold rnd
 rw [h1,h2]
 unfold cr
 dsimp only
 simp only [w32_mod]
 congr 1 <;> omega
theorem AAL {l:List Int} {t:Nat} {w0 w1 w9 we:Nat} (h1:w1<4294967296) (hE:we<4294967296) (e0:l.getD (t - 16) 0=(w0:Int)) (e1:l.getD (t - 15) 0=(w1:Int)) (e9:l.getD (t - 7) 0=(w9:Int)) (ee:l.getD (t - 2) 0=(we:Int)):nextW l t=((nw w0 w1 w9 we:Nat):Int):=by
 unfold nextW nw
 rw [e0,e1,e9,ee,VAK hE,UAK h1]
 simp only [w32_mod]
 show _=(((Vq we+w9+Tq w1+w0) % 4294967296:Nat):Int)
 omega
theorem Xc (w:List Int) (hw:w.length=16) (n m i:Nat) (hnm:n≤m) (hi:i<16+n):(sched w m).getD i 0=(sched w n).getD i 0:=by
 induction m with
 | zero=>rw [Nat.le_zero.1 hnm]
 | succ m ih=>
  rcases Nat.lt_or_ge m n with h | h
  ·rw [show n=m+1 by omega]
  ·rw [sched,List.getD_eq_getElem?_getD,List.getElem?_append_left (by rw [sched_len hw];omega),←List.getD_eq_getElem?_getD]
   exact ih h
theorem BAL (w:List Int) (hw:w.length=16) (n m:Nat) (hnm:n<m):(sched w m).getD (16+n) 0=nextW (sched w m) (16+n):=by
 rw [Xc w hw (n+1) m (16+n) hnm (by omega),sched,List.getD_eq_getElem?_getD,List.getElem?_append_right (by rw [sched_len hw];omega),sched_len hw,Nat.sub_self]
 show nextW (sched w n) (16+n)=_
 unfold nextW
 rw [Xc w hw n m _ (by omega) (by omega),Xc w hw n m _ (by omega) (by omega),Xc w hw n m _ (by omega) (by omega),Xc w hw n m _ (by omega) (by omega)]
theorem CAL (W:List Int) (hW:W.length=16) (hr:∀ x ∈ W,R32 x) (r0:Reg):∀ (ks:List Nat) (t w0 w1 w2 w3 w4 w5 w6 w7 w8 w9 wa wb wc wd we wf a b c d e f g h:Nat),ks=YZ.drop t→t≤64→
  ([w0,w1,w2,w3,w4,w5,w6,w7,w8,w9,wa,wb,wc,wd,we,wf].map fun x:Nat=>(x:Int))=(List.range 16).map (fun j=>(sched W 64).getD (t+j) 0)→
  rnds keysL (sched W 48) r0 t=cr a b c d e f g h→a<4294967296→b<4294967296→c<4294967296→e<4294967296→f<4294967296→g<4294967296→
  ((Yq ks w0 w1 w2 w3 w4 w5 w6 w7 w8 w9 wa wb wc wd we wf a b c d e f g h:Nat):Int)=(rnds keysL (sched W 48) r0 64).a:=by
 intro ks
 induction ks with
 | nil=>
  intro t w0 w1 w2 w3 w4 w5 w6 w7 w8 w9 wa wb wc wd we wf a b c d e f g h hk ht _ hR _ _ _ _ _ _
  have:t=64:=by
   have h2:=congrArg List.length hk
   rw [List.length_drop,show YZ.length=64 from rfl] at h2
   simp at h2;omega
  subst this
  rw [hR];rfl
 | cons k ks ih=>
  intro t w0 w1 w2 w3 w4 w5 w6 w7 w8 w9 wa wb wc wd we wf a b c d e f g h hk ht hw hR ha hb hc he hf hg
  have hlt:t<64:=by
   have h2:=congrArg List.length hk
   rw [List.length_drop,show YZ.length=64 from rfl,List.length_cons] at h2
   omega
  have hk1:YZ.drop t=YZ[t]'hlt::YZ.drop (t+1):=List.drop_eq_getElem_cons hlt
  rw [hk1] at hk
  injection hk with hk2 hk3
  have hkl:keysL.getD t 0=(k:Int):=by
   rw [hk2]
   have hall:∀ i,i<64→keysL.getD i 0=((YZ.getD i 0:Nat):Int):=by decide
   rw [hall t hlt,getD_at (show t<YZ.length from hlt)];rfl
  simp only [List.map_cons,List.map_nil,List.range,List.range.loop,List.cons.injEq,and_true,Nat.add_zero] at hw
  obtain ⟨q0,q1,q2,q3,q4,q5,q6,q7,q8,q9,qa,qb,qc,qd,qe,qf⟩:=hw
  have hlt2:∀ {x i:Nat},(x:Int)=(sched W 64).getD i 0→x<4294967296:=fun {x i} h=>by
   have:=r_getD (sched_r hr 64) i
   rw [←h] at this
   have:=this.2
   omega
  rw [Yq]
  simp only [Bl]
  refine ih (t+1) _ _ _ _ _ _ _ _ _ _ _ _ _ _ _ _ _ _ _ _ _ _ _ _ hk3 hlt ?_ ?_ (Nat.mod_lt _ (by decide)) ha hb (Nat.mod_lt _ (by decide)) he hf
  ·simp only [List.map_cons,List.map_nil,List.range,List.range.loop,List.cons.injEq,and_true,Nat.add_zero]
   refine ⟨q1,?_,?_,?_,?_,?_,?_,?_,?_,?_,?_,?_,?_,?_,?_,?_⟩
   ·rw [q2]
   ·rw [q3]
   ·rw [q4]
   ·rw [q5]
   ·rw [q6]
   ·rw [q7]
   ·rw [q8]
   ·rw [q9]
   ·rw [qa]
   ·rw [qb]
   ·rw [qc]
   ·rw [qd]
   ·rw [qe]
   ·rw [qf]
   ·have h2:=BAL W hW t 64 hlt
    rw [show t+1+15=16+t by omega,h2]
    exact (AAL (hlt2 q1) (hlt2 qe) (by rw [show 16+t - 16=t by omega,←q0]) (by rw [show 16+t - 15=t+1 by omega,←q1]) (by rw [show 16+t - 7=t+9 by omega,←q9]) (by rw [show 16+t - 2=t+14 by omega,←qe])).symm
  ·rw [rnds,hR,hkl,←Xc W hW 48 64 t (by omega) (by omega),←q0]
   exact ZAK ha hb hc he hf hg
def nd (w0 w1 wf:Nat):Nat:=Nat.mod (Nat.add 1779033703 (Yq YZ w0 w1 0 0 0 0 0 0 0 0 0 0 0 0 0 wf 1779033703 3144134277 1013904242 2773480762 1359893119 2600822924 528734635 1541459225)) 4294967296
def dg (n:Nat):Nat:=Nat.add 48 (Nat.mod n 10)
def Yc (n:Nat):Nat:=match Nat.ble n 9,Nat.ble n 99,Nat.ble n 999 with
 | true,_,_=>Ja (Nat.add (Nat.mul (dg n) 16777216) 8388608) fun w=>nd w 0 8
 | _,true,_=>Ja (Nat.add (Nat.add (Nat.mul (dg (Nat.div n 10)) 16777216) (Nat.mul (dg n) 65536)) 32768) fun w=>nd w 0 16
 | _,_,true=>Ja (Nat.add (Nat.add (Nat.add (Nat.mul (dg (Nat.div n 100)) 16777216) (Nat.mul (dg (Nat.div n 10)) 65536)) (Nat.mul (dg n) 256)) 128) fun w=>nd w 0 24
 | _,_,_=>Ja (Nat.add (Nat.add (Nat.add (Nat.mul (dg (Nat.div n 1000)) 16777216) (Nat.mul (dg (Nat.div n 100)) 65536)) (Nat.mul (dg (Nat.div n 10)) 256)) (dg n)) fun w=>nd w 2147483648 32
def nall (f:Nat→Bool):Nat→Bool
 | 0=>true
 | n+1=>match f n with
  | true=>nall f n
  | false=>false
theorem RAL {f:Nat→Bool}:∀ {n:Nat},nall f n=true→∀ i,i<n→f i=true:=by
 intro n
 induction n with
 | zero=>intro _ i hi;omega
 | succ n ih=>
  intro h i hi
  rw [nall] at h
  split at h
  ·rename_i hf
   rcases Nat.lt_or_ge i n with h1 | h1
   ·exact ih h i h1
   ·rw [show i=n by omega];exact hf
  ·cases h
def WAC (n:Nat):Bool:=match Nat.beq (Yc n) (nd 1852801024 0 16) with | true=>false | false=>true
theorem Hl {b:List Int} {w0 w1 wf:Nat} (hb:Byt b) (hw:wordsN b 16=[(w0:Int),(w1:Int),0,0,0,0,0,0,0,0,0,0,0,0,0,(wf:Int)]):(comp reg0 b).a=((nd w0 w1 wf:Nat):Int):=by
 have hW:=wordsN_len b 16
 have hr:=wordsN_r hb 16
 have hp:∀ j,j<16→(sched (wordsN b 16) 64).getD (0+j) 0=(wordsN b 16).getD j 0:=fun j hj=>by
  rw [Nat.zero_add,Xc _ hW 0 64 j (Nat.zero_le _) (by omega)];rfl
 have h:=CAL (wordsN b 16) hW hr reg0 YZ 0 w0 w1 0 0 0 0 0 0 0 0 0 0 0 0 0 wf 1779033703 3144134277 1013904242 2773480762 1359893119 2600822924 528734635 1541459225 rfl (Nat.zero_le _) (by
  simp only [List.range,List.range.loop,List.map_cons,List.map_nil]
  rw [hp 0 (by omega),hp 1 (by omega),hp 2 (by omega),hp 3 (by omega),hp 4 (by omega),hp 5 (by omega),hp 6 (by omega),hp 7 (by omega),hp 8 (by omega),hp 9 (by omega),hp 10 (by omega),hp 11 (by omega),hp 12 (by omega),hp 13 (by omega),hp 14 (by omega),hp 15 (by omega),hw]
  rfl) rfl (by decide) (by decide) (by decide) (by decide) (by decide) (by decide)
 rw [comp,regAdd]
 dsimp only
 rw [←h,nd]
 show w32 ((1779033703:Nat)+((_:Nat):Int))=_
 rw [←Int.natCast_add,YAK];rfl
theorem XAC {l:List Int} (h:l.length≤55):digL l=bytesL (comp reg0 (l++endL l.length)).l:=by
 have h1:=endL_len l.length
 have h2:(l.length+(endL l.length).length) / 64=1:=by omega
 rw [digL,h2,comps,comps,List.take_of_length_le (by rw [List.length_append];omega)]
theorem DAL {l m:List Int} (hl:l.length≤55) (hm:m.length≤55) (h:digL l=digL m):(comp reg0 (l++endL l.length)).a=(comp reg0 (m++endL m.length)).a:=by
 rw [XAC hl,XAC hm] at h
 have e:∀ b,wordAt (bytesL (comp reg0 b).l) 0=(comp reg0 b).a:=fun b=>wordAt_bytesL (Reg.l_r (comp_ok reg0 b)) (i:=0) (Nat.succ_pos _)
 rw [←e,←e,h]
def LZ:Nat→Nat→List Int
 | 0,_=>[]
 | k+1,n=>if n=0 then [] else LZ k (n / 10)++[48+((n % 10:Nat):Int)]
def WY (n:Nat):List Int:=if n=0 then [48] else LZ 20 n
theorem X0 (n:Nat):((dg n:Nat):Int)=48+((n % 10:Nat):Int):=by
 show ((48+n % 10:Nat):Int)=_
 omega
theorem YAC {n:Nat} (h:n<10):WY n=[((dg n:Nat):Int)]:=by
 rw [X0,WY]
 split
 ·rename_i h0;subst h0;rfl
 ·rename_i h0
  rw [LZ,if_neg h0,show n / 10=0 by omega];rfl
theorem Df {k n:Nat} (h:10≤n):LZ (k+1) n=LZ k (n / 10)++[((dg n:Nat):Int)]:=by rw [LZ,if_neg (by omega),X0]
theorem Y0 {k n:Nat} (h:n<10) (h0:0<n):LZ (k+1) n=[((dg n:Nat):Int)]:=by
 rw [LZ,if_neg (by omega),X0,show n / 10=0 by omega]
 cases k <;> rfl
theorem ZAC {n:Nat} (h0:10≤n) (h:n<100):WY n=[((dg (n / 10):Nat):Int),((dg n:Nat):Int)]:=by
 rw [WY,if_neg (by omega),Df h0,Y0 (by omega) (by omega)];rfl
theorem AAD {n:Nat} (h0:100≤n) (h:n<1000):WY n=[((dg (n / 100):Nat):Int),((dg (n / 10):Nat):Int),((dg n:Nat):Int)]:=by
 rw [WY,if_neg (by omega),Df (by omega),Df (by omega),Y0 (by omega) (by omega),show n / 10 / 10=n / 100 by omega];rfl
theorem CAD {n:Nat} (h0:1000≤n) (h:n<10000):WY n=[((dg (n / 1000):Nat):Int),((dg (n / 100):Nat):Int),((dg (n / 10):Nat):Int),((dg n:Nat):Int)]:=by
 rw [WY,if_neg (by omega),Df (by omega),Df (by omega),Df (by omega),Y0 (by omega) (by omega),show n / 10 / 10=n / 100 by omega,show n / 100 / 10=n / 1000 by omega];rfl
theorem EAL (n:Nat):dg n<58:=by
 show 48+n % 10<58
 omega
theorem Zq {a b:List Int} (ha:Byt a) (hb:Byt b):Byt (a++b):=fun n hn=>by
 rcases List.mem_append.1 hn with h | h
 ·exact ha n h
 ·exact hb n h
theorem Ar (l:List Nat):Byt (l.map fun n=>((dg n:Nat):Int)):=fun n hn=>by
 rw [List.mem_map] at hn
 obtain ⟨m,_,rfl⟩:=hn
 have:=EAL m
 omega
theorem FAL (x:Int):wordsN ([x]++endL 1) 16=[be4 x 128 0 0,((0:Nat):Int),0,0,0,0,0,0,0,0,0,0,0,0,0,((8:Nat):Int)]:=by kernel_rfl
theorem GAL (x y:Int):wordsN ([x,y]++endL 2) 16=[be4 x y 128 0,((0:Nat):Int),0,0,0,0,0,0,0,0,0,0,0,0,0,((16:Nat):Int)]:=by kernel_rfl
theorem HAL (x y z:Int):wordsN ([x,y,z]++endL 3) 16=[be4 x y z 128,((0:Nat):Int),0,0,0,0,0,0,0,0,0,0,0,0,0,((24:Nat):Int)]:=by kernel_rfl
theorem IAL (x y z w:Int):wordsN ([x,y,z,w]++endL 4) 16=[be4 x y z w,((2147483648:Nat):Int),0,0,0,0,0,0,0,0,0,0,0,0,0,((32:Nat):Int)]:=by kernel_rfl
theorem JAL {n:Nat} (h:n<10000):(comp reg0 (WY n++endL (WY n).length)).a=((Yc n:Nat):Int):=by
 have ble_f:∀ {a b:Nat},b<a→Nat.ble a b=false:=fun {a b} h=>by
  cases hb:Nat.ble a b with
  | false=>rfl
  | true=>have:=Nat.le_of_ble_eq_true hb;omega
 by_cases c1:n<10
 ·rw [YAC c1,Yc,Nat.ble_eq_true_of_le (by omega:n≤9)]
  dsimp only
  rw [Bl]
  refine Hl (Zq (Ar [n]) (endL_byt _)) ?_
  have e:((Nat.add (Nat.mul (dg n) 16777216) 8388608:Nat):Int)=be4 ((dg n:Nat):Int) 128 0 0:=by
   show ((dg n*16777216+8388608:Nat):Int)=_
   unfold be4;omega
  rw [e];exact FAL _
 ·by_cases c2:n<100
  ·rw [ZAC (by omega) c2,Yc,ble_f (by omega:9<n),Nat.ble_eq_true_of_le (by omega:n≤99)]
   dsimp only
   rw [Bl]
   refine Hl (Zq (Ar [n / 10,n]) (endL_byt _)) ?_
   have e:((Nat.add (Nat.add (Nat.mul (dg (Nat.div n 10)) 16777216) (Nat.mul (dg n) 65536)) 32768:Nat):Int)=be4 ((dg (n / 10):Nat):Int) ((dg n:Nat):Int) 128 0:=by
    show ((dg (n / 10)*16777216+dg n*65536+32768:Nat):Int)=_
    unfold be4;omega
   rw [e];exact GAL _ _
  ·by_cases c3:n<1000
   ·rw [AAD (by omega) c3,Yc,ble_f (by omega:9<n),ble_f (by omega:99<n),Nat.ble_eq_true_of_le (by omega:n≤999)]
    dsimp only
    rw [Bl]
    refine Hl (Zq (Ar [n / 100,n / 10,n]) (endL_byt _)) ?_
    have e:((Nat.add (Nat.add (Nat.add (Nat.mul (dg (Nat.div n 100)) 16777216) (Nat.mul (dg (Nat.div n 10)) 65536)) (Nat.mul (dg n) 256)) 128:Nat):Int)=be4 ((dg (n / 100):Nat):Int) ((dg (n / 10):Nat):Int) ((dg n:Nat):Int) 128:=by
     show ((dg (n / 100)*16777216+dg (n / 10)*65536+dg n*256+128:Nat):Int)=_
     unfold be4;omega
    rw [e];exact HAL _ _ _
   ·rw [CAD (by omega) h,Yc,ble_f (by omega:9<n),ble_f (by omega:99<n),ble_f (by omega:999<n)]
    dsimp only
    rw [Bl]
    refine Hl (Zq (Ar [n / 1000,n / 100,n / 10,n]) (endL_byt _)) ?_
    have e:((Nat.add (Nat.add (Nat.add (Nat.mul (dg (Nat.div n 1000)) 16777216) (Nat.mul (dg (Nat.div n 100)) 65536)) (Nat.mul (dg (Nat.div n 10)) 256)) (dg n):Nat):Int)=be4 ((dg (n / 1000):Nat):Int) ((dg (n / 100):Nat):Int) ((dg (n / 10):Nat):Int) ((dg n:Nat):Int):=by
     show ((dg (n / 1000)*16777216+dg (n / 100)*65536+dg (n / 10)*256+dg n:Nat):Int)=_
     unfold be4;omega
    rw [e];exact IAL _ _ _ _
theorem VAC {n:Nat} (h:n<10000):(WY n).length≤4:=by
 by_cases c1:n<10
 ·rw [YAC c1];exact Nat.le_of_ble_eq_true rfl
 ·by_cases c2:n<100
  ·rw [ZAC (by omega) c2];exact Nat.le_of_ble_eq_true rfl
  ·by_cases c3:n<1000
   ·rw [AAD (by omega) c3];exact Nat.le_of_ble_eq_true rfl
   ·rw [CAD (by omega) h];exact Nat.le_of_ble_eq_true rfl
theorem KAL:∀ (k n:Nat),Byt (LZ k n):=by
 intro k
 induction k with
 | zero=>intro n x hx;cases hx
 | succ k ih=>
  intro n x hx
  rw [LZ] at hx
  split at hx
  ·cases hx
  ·rcases List.mem_append.1 hx with h | h
   ·exact ih _ x h
   ·rw [List.mem_singleton] at h;omega
theorem LAL (n:Nat):Byt (WY n):=by
 rw [WY]
 split
 ·intro x hx;rw [List.mem_singleton] at hx;omega
 ·exact KAL _ _
theorem MAL:(comp reg0 ([110,111]++endL 2)).a=((nd 1852801024 0 16:Nat):Int):=Hl (by unfold Byt;decide) (by rfl)
theorem SAL {n:Nat} (h:n<10000) (hf:WAC n=true):dig (ofBytes (WY n))≠dig ⟨#[110,111]⟩:=fun e=>by
 have e2:=congrArg bs e
 rw [bs_dig,bs_dig,bs_ofBytes (LAL n),show bs (⟨#[110,111]⟩:ByteArray)=[110,111] from rfl] at e2
 have e3:=DAL (by have:=VAC h;omega) (by exact Nat.le_of_ble_eq_true rfl) e2
 rw [JAL h,show ([110,111]:List Int).length=2 from rfl,MAL] at e3
 have e4:Yc n=nd 1852801024 0 16:=by omega
 rw [WAC,e4,Nat.beq_refl] at hf
 cases hf
theorem TAK {n:Nat} (h:n<10000):Qb (n:Int)=some (ofBytes (WY n)):=by
 have ob:∀ a b:List Int,ofBytes a++ofBytes b=ofBytes (a++b):=fun a b=>by
  apply ByteArray.ext
  simp [ofBytes]
 have key:∀ (k:Nat) (n m:Nat) (l:List Int),n<10 ^ k→n<10000→l.length+k≤100→Ym (m+k+1) (.c0 (n:Int) false (ofBytes l))=some (ofBytes (LZ k n++l)):=by
  intro k
  induction k with
  | zero=>
   intro n m l h0 _ _
   obtain rfl:n=0:=by omega
   rfl
  | succ k ih=>
   intro n m l h0 h1 hl
   rw [show m+(k+1)+1=(m+k+1)+1 from rfl,Ym]
   simp only [Ls]
   by_cases hn:n=0
   ·subst hn;rfl
   ·have e1:(n:Int).tmod 10=((n % 10:Nat):Int):=by rw [Int.tmod_eq_emod_of_nonneg (by omega)];omega
    have e2:(n:Int).tdiv 10=((n / 10:Nat):Int):=by rw [Int.tdiv_eq_ediv_of_nonneg (by omega)];omega
    rw [cond_t (by rw [bne_iff_ne];omega),e1,e2,cond_f (by rw [decide_eq_false_iff_not];omega),Ld,Gs,cond_t (by rw [decide_eq_true_eq];omega),w64_id (by omega) (by omega),w8_id (by omega) (by omega),Option.bind_some,cond_t (by rw [decide_eq_true_eq,ofBytes_size,ofBytes_size,List.length_singleton];omega),w64_id (by omega) (by omega),ob]
    rw [ih (n / 10) m _ (Nat.div_lt_of_lt_mul (by rw [Nat.pow_succ,Nat.mul_comm] at h0;exact h0)) (by omega) (by rw [List.length_append,List.length_singleton];omega),LZ,if_neg hn,List.append_assoc]
 rw [Qb,Js,WY]
 by_cases hn:n=0
 ·subst hn;rfl
 ·rw [cond_f (by rw [beq_eq_false_iff_ne];omega),if_neg hn,show decide ((n:Int)<0)=false from decide_eq_false (by omega)]
  obtain ⟨m,hm⟩:∃ m,gas=m+20+1:=⟨gas - 21,by have:=gas_lt (n:=21) (by omega);omega⟩
  rw [hm]
  have:=key 20 n m [] (by omega) h (Nat.le_of_ble_eq_true rfl)
  rw [List.append_nil] at this
  exact this
theorem four_e {x:Int} (h:R32 x):[w8 (w32 (x.tdiv 16777216)),w8 ((w32 (x.tdiv 65536)).tmod 256),w8 ((w32 (x.tdiv 256)).tmod 256),w8 (x.tmod 256)]=four x:=by
 obtain ⟨h1,h2⟩:=h
 rw [Int.tdiv_eq_ediv_of_nonneg h1,Int.tdiv_eq_ediv_of_nonneg h1,Int.tdiv_eq_ediv_of_nonneg h1,Int.tmod_eq_emod_of_nonneg h1]
 rw [w32_id (n:=x / 16777216) (by omega) (by omega),w32_id (n:=x / 65536) (by omega) (by omega),w32_id (n:=x / 256) (by omega) (by omega)]
 rw [Int.tmod_eq_emod_of_nonneg (by omega),Int.tmod_eq_emod_of_nonneg (by omega)]
 simp only [four,w8_mod,List.cons.injEq,and_true]
 omega
theorem p_spec_l05Bytes {ws:List Int} (h:∀ x ∈ ws,R32 x) (hl:ws.length≤1000000000000):spec_l05Bytes ws=some (ofBytes (bytesL ws)):=by
 have key:=loopN (A:=Unit) (n:=ws.length) (Lp:=L_spec_l05Bytes) (st:=fun i _=>.c0 ws (i:Int) (bytesL (ws.take i))) (Inv:=fun _ _=>True) (out:=fun _ _=>some (ofBytes (bytesL ws)))
  (fun m _ _=>by
   simp only [L_spec_l05Bytes,B_spec_l05Bytes]
   rw [cond_f (by simp),List.take_length])
  (fun m i _ hi _=>.inr ⟨(),by
   have e:w64 ((i:Int)+1)=((i+1:Nat):Int):=by rw [w64_id (by omega) (by omega)];rfl
   simp only [L_spec_l05Bytes,B_spec_l05Bytes,e,Int.toNat_natCast]
   rw [cond_t (by simp;omega),cond_t (by simp;omega),cond_t (by rw [bytesL_len,List.length_take];simp;omega)]
   rw [getD_at hi,four_e (h _ (List.getElem_mem hi)),take_at hi,bytesL_app]
   simp [bytesL],trivial,rfl⟩)
 exact key gas 0 () (Nat.zero_le _) (gas_lt (by omega)) trivial
def hash0:SHasher:=⟨ofBytes (bytesL reg0.l),⟨#[]⟩,0⟩
theorem p_spec_HasherNew:spec_HasherNew=some hash0:=by
 have h:=p_spec_l05Bytes (ws:=reg0.l) (Reg.l_r reg0_ok) (by decide)
 have e:spec_l05First=some reg0.l:=rfl
 simp only [spec_HasherNew,E_spec_HasherNew,e,h,Option.bind_some]
 rfl
def inR (x a b:Int):Bool:=decide (a≤x) && decide (x≤b)
theorem inR_iff {x a b:Int}:inR x a b=true↔a≤x∧x≤b:=by simp [inR]
theorem p_spec_l01In (x a b:Int):spec_l01In x a b=some (inR x a b):=by
 show (bif decide (a≤x) then some (decide (x≤b)) else some false)=some (inR x a b)
 unfold inR;cases decide (a≤x) <;> rfl
theorem p_spec_HasherOk {h:SHasher} (h1:h.fState.size=32) (h2:h.fRest.size<64) (h3:0≤h.fCount∧h.fCount≤1000000000) (h4:h.fCount % 64=(h.fRest.size:Int)):spec_HasherOk h=some true:=by
 have e:inR h.fCount 0 1000000000=true:=by rw [inR_iff];omega
 simp only [spec_HasherOk,E_spec_HasherOk,p_spec_l01In,Option.bind_some,e]
 rw [cond_t (by simp;omega),cond_t (by simp;omega),cond_true,Int.tmod_eq_emod_of_nonneg h3.1,h4]
 simp
theorem p_spec_l05Word {s:ByteArray} {i:Nat} (h:4*i+4≤s.size) (hs:s.size≤9000000000000000000):spec_l05Word s ((4*i:Nat):Int)=some (wordAt (bs s) i):=by
 have hb:=byt_bs s
 have e1:w64 (((4*i:Nat):Int)+1)=((4*i+1:Nat):Int):=by rw [w64_id (by omega) (by omega)];rfl
 have e2:w64 (((4*i:Nat):Int)+2)=((4*i+2:Nat):Int):=by rw [w64_id (by omega) (by omega)];rfl
 have e3:w64 (((4*i:Nat):Int)+3)=((4*i+3:Nat):Int):=by rw [w64_id (by omega) (by omega)];rfl
 simp only [spec_l05Word,E_spec_l05Word,e1,e2,e3]
 rw [cond_t (by simp;omega),cond_t (by simp;omega),cond_t (by simp;omega),cond_t (by simp;omega)]
 rw [bt_getD (by omega),bt_getD (by omega),bt_getD (by omega),bt_getD (by omega)]
 have b0:=byt_getD hb (4*i)
 have b1:=byt_getD hb (4*i+1)
 have b2:=byt_getD hb (4*i+2)
 have b3:=byt_getD hb (4*i+3)
 unfold wordAt be4
 simp only [w32_mod]
 congr 1
 omega
theorem p_spec_l05Words {s:ByteArray} (hs:s.size≤1000000000000):spec_l05Words s=some (wordsN (bs s) (s.size / 4)):=by
 have key:=loopN (A:=Unit) (n:=s.size / 4) (Lp:=L_spec_l05Words) (st:=fun i _=>.c0 s ((4*i:Nat):Int) (wordsN (bs s) i)) (Inv:=fun _ _=>True) (out:=fun _ _=>some (wordsN (bs s) (s.size / 4)))
  (fun m _ _=>by
   simp only [L_spec_l05Words,B_spec_l05Words]
   rw [w64_id (by omega) (by omega),cond_f (by simp;omega)])
  (fun m i _ hi _=>.inr ⟨(),by
   have e:w64 (((4*i:Nat):Int)+4)=((4*(i+1):Nat):Int):=by rw [w64_id (by omega) (by omega)];omega
   simp only [L_spec_l05Words,B_spec_l05Words,e,p_spec_l05Word (s:=s) (i:=i) (by omega) (by omega),Option.bind_some,wordsN_len,wordsN_succ]
   rw [cond_t (by simp;omega),cond_t (by simp;omega)],trivial,rfl⟩)
 exact key gas 0 () (Nat.zero_le _) (gas_lt (by omega)) trivial
theorem p_spec_l05Right {x low high:Int} (h:R32 x) (hl:0<low) (hh:0<high) (hlh:low*high=4294967296):spec_l05Right x low high=some (rt low high x):=by
 have hr:=r32_rt h hl hh hlh
 obtain ⟨h1,h2⟩:=h
 have e0:(!(low == 0))=true:=by simp;omega
 have d1:0≤x / low:=Int.ediv_nonneg h1 (by omega)
 have d2:0≤x % low*high:=Int.mul_nonneg (Int.emod_nonneg _ (by omega)) (by omega)
 unfold R32 rt at hr
 simp only [spec_l05Right,E_spec_l05Right,e0,cond_true,Int.tdiv_eq_ediv_of_nonneg h1,Int.tmod_eq_emod_of_nonneg h1]
 rw [w32_id d1 (by omega),w32_id d2 (by omega),w32_id (by omega) (by omega)]
 rfl
theorem p_spec_sg1 {x:Int} (h:R32 x):spec_l05S x 131072 524288 1024 true=some (sg1 x):=by
 have e1:w32 (w32 ((2147483648:Int).tdiv 131072)*2)=32768:=by decide
 have e2:w32 (w32 ((2147483648:Int).tdiv 524288)*2)=8192:=by decide
 have e3:w32 (x.tdiv 1024)=x / 1024:=by
  obtain ⟨h1,h2⟩:=h
  rw [Int.tdiv_eq_ediv_of_nonneg h1,w32_id (by omega) (by omega)]
 simp only [spec_l05S,E_spec_l05S,e1,e2,e3,p_spec_l05Right h (low:=131072) (high:=32768) (by omega) (by omega) (by omega),p_spec_l05Right h (low:=524288) (high:=8192) (by omega) (by omega) (by omega),Option.bind_some,xr_e]
 rfl
theorem p_spec_sg0 {x:Int} (h:R32 x):spec_l05S x 128 262144 8 true=some (sg0 x):=by
 have e1:w32 (w32 ((2147483648:Int).tdiv 128)*2)=33554432:=by decide
 have e2:w32 (w32 ((2147483648:Int).tdiv 262144)*2)=16384:=by decide
 have e3:w32 (x.tdiv 8)=x / 8:=by
  obtain ⟨h1,h2⟩:=h
  rw [Int.tdiv_eq_ediv_of_nonneg h1,w32_id (by omega) (by omega)]
 simp only [spec_l05S,E_spec_l05S,e1,e2,e3,p_spec_l05Right h (low:=128) (high:=33554432) (by omega) (by omega) (by omega),p_spec_l05Right h (low:=262144) (high:=16384) (by omega) (by omega) (by omega),Option.bind_some,xr_e]
 rfl
theorem p_spec_ep1 {x:Int} (h:R32 x):spec_l05S x 64 2048 33554432 false=some (ep1 x):=by
 have e1:w32 (w32 ((2147483648:Int).tdiv 64)*2)=67108864:=by decide
 have e2:w32 (w32 ((2147483648:Int).tdiv 2048)*2)=2097152:=by decide
 have e3:w32 (w32 ((2147483648:Int).tdiv 33554432)*2)=128:=by decide
 simp only [spec_l05S,E_spec_l05S,e1,e2,e3,p_spec_l05Right h (low:=64) (high:=67108864) (by omega) (by omega) (by omega),p_spec_l05Right h (low:=2048) (high:=2097152) (by omega) (by omega) (by omega),p_spec_l05Right h (low:=33554432) (high:=128) (by omega) (by omega) (by omega),Option.bind_some,xr_e]
 rfl
theorem p_spec_ep0 {x:Int} (h:R32 x):spec_l05S x 4 8192 4194304 false=some (ep0 x):=by
 have e1:w32 (w32 ((2147483648:Int).tdiv 4)*2)=1073741824:=by decide
 have e2:w32 (w32 ((2147483648:Int).tdiv 8192)*2)=524288:=by decide
 have e3:w32 (w32 ((2147483648:Int).tdiv 4194304)*2)=1024:=by decide
 simp only [spec_l05S,E_spec_l05S,e1,e2,e3,p_spec_l05Right h (low:=4) (high:=1073741824) (by omega) (by omega) (by omega),p_spec_l05Right h (low:=8192) (high:=524288) (by omega) (by omega) (by omega),p_spec_l05Right h (low:=4194304) (high:=1024) (by omega) (by omega) (by omega),Option.bind_some,xr_e]
 rfl
theorem regAdd_at (s r:Reg):∀ i,i<8→(regAdd s r).l.getD i 0=w32 (s.l.getD i 0+r.l.getD i 0)
 | 0,_=>rfl | 1,_=>rfl | 2,_=>rfl | 3,_=>rfl | 4,_=>rfl | 5,_=>rfl | 6,_=>rfl | 7,_=>rfl
 | n+8,h=>by omega
theorem gas_add (n:Nat) (h:n<9223372036854775807):∃ m,gas=m+n:=⟨gas - n,by have:=gas_lt h;omega⟩
theorem l05Round3 (s r:Reg):∀ (j i m:Nat),i+j=8→L_spec_l05Round (m+j+1) (.c3 s.l (i:Int) r.l ((regAdd s r).l.take i))=some (regAdd s r).l:=by
 intro j
 induction j with
 | zero=>
  intro i m h
  obtain rfl:i=8:=by omega
  simp only [L_spec_l05Round,B_spec_l05Round]
  rfl
 | succ j ih=>
  intro i m h
  have e:w64 ((i:Int)+1)=((i+1:Nat):Int):=by rw [w64_id (by omega) (by omega)];rfl
  have hl:∀ q:Reg,q.l.length=8:=fun _=>rfl
  rw [show m+(j+1)+1=(m+j+1)+1 by omega]
  simp only [L_spec_l05Round,B_spec_l05Round,e,Int.toNat_natCast]
  rw [cond_t (by simp;omega),cond_t (by simp [hl];omega),cond_t (by simp [hl];omega),cond_t (by simp [hl];omega)]
  have h3:=ih (i+1) m (by omega)
  rw [take_at (by rw [hl];omega),←getD_at (by rw [hl];omega) 0,regAdd_at _ _ _ (by omega)] at h3
  exact h3
def shL:Nat→List Int→List Int
 | 0,v=>v
 | i+1,v=>shL i (v.set (i+1) (v.getD i 0))
theorem l05Round2 (t o W:List Int) (k T1 T2:Int) (hk:0≤k∧k<64):∀ (i m:Nat) (v:List Int),i<8→v.length=8→L_spec_l05Round (m+i+1) (.c2 t o k T1 T2 (i:Int) W v)=L_spec_l05Round m (.c1 t o (k+1) W (((shL i v).set 4 (w32 ((shL i v).getD 4 0+T1))).set 0 (w32 (T1+T2)))):=by
 intro i
 induction i with
 | zero=>
  intro m v _ hl
  have e:w64 (k+1)=k+1:=w64_id (by omega) (by omega)
  simp only [L_spec_l05Round,B_spec_l05Round,e]
  rw [cond_f (by simp),cond_t (by simp [hl]),cond_t (by simp [hl]),cond_t (by simp [hl])]
  rfl
 | succ i ih=>
  intro m v hi hl
  have e:w64 (((i+1:Nat):Int) - 1)=(i:Int):=by rw [w64_id (by omega) (by omega)];omega
  rw [show m+(i+1)+1=(m+i+1)+1 by omega]
  rw [L_spec_l05Round]
  simp only [B_spec_l05Round,e,Int.toNat_natCast]
  rw [cond_t (by simp;try omega),cond_t (by simp [hl];try omega),cond_t (by simp [hl];try omega),ih m _ (by omega) (by simp [hl])]
  rfl
theorem l05Round1 (t W:List Int) (r:Reg) (hr:r.ok) (hW:∀ x ∈ W,R32 x) (hWl:W.length=64) (i m:Nat) (hi:i<64) :
  L_spec_l05Round (m+9) (.c1 t keysL (i:Int) W r.l)=L_spec_l05Round m (.c1 t keysL ((i:Int)+1) W (rnd r (keysL.getD i 0) (W.getD i 0)).l):=by
 obtain ⟨h1,h2,h3,h4,h5,h6,h7,h8⟩:=hr
 have hk:keysL.length=64:=rfl
 have g (q:Reg):q.l.getD 0 0=q.a∧q.l.getD 1 0=q.b∧q.l.getD 2 0=q.c∧q.l.getD 4 0=q.e∧q.l.getD 5 0=q.f∧q.l.getD 6 0=q.g∧q.l.getD 7 0=q.h:=⟨rfl,rfl,rfl,rfl,rfl,rfl,rfl⟩
 obtain ⟨g0,g1,g2,g4,g5,g6,g7⟩:=g r
 have hl:r.l.length=8:=rfl
 have z4:(4:Int).toNat=4:=rfl
 have z5:(5:Int).toNat=5:=rfl
 have z6:(6:Int).toNat=6:=rfl
 have z7:(7:Int).toNat=7:=rfl
 have z0:(0:Int).toNat=0:=rfl
 have z1:(1:Int).toNat=1:=rfl
 have z2:(2:Int).toNat=2:=rfl
 rw [show m+9=(m+7+1)+1 by omega,L_spec_l05Round]
 simp only [B_spec_l05Round,z0,z1,z2,z4,z5,z6,z7,g0,g1,g2,g4,g5,g6,g7,hl,hk,hWl,p_spec_ep1 h5,p_spec_ep0 h1,Option.bind_some,xr_e,an_e,Int.toNat_natCast]
 rw [cond_t (by simp;omega),cond_t (by simp),cond_t (by simp),cond_t (by simp),cond_t (by simp),cond_t (by simp;omega),cond_t (by simp;omega),cond_t (by simp),cond_t (by simp),cond_t (by simp),cond_t (by simp),cond_t (by simp),cond_t (by simp),cond_t (by simp)]
 exact l05Round2 t keysL W (i:Int) (t1 r (keysL.getD i 0) (W.getD i 0)) (t2 r) (by omega) 7 m r.l (by omega) rfl
theorem l05Round1s (s:Reg) (hs:s.ok) (W:List Int) (hW:∀ x ∈ W,R32 x) (hWl:W.length=64):∀ (j i m:Nat),i+j=64→L_spec_l05Round (m+9*j+10) (.c1 s.l keysL (i:Int) W (rnds keysL W s i).l)=some (regAdd s (rnds keysL W s 64)).l:=by
 intro j
 induction j with
 | zero=>
  intro i m h
  obtain rfl:i=64:=by omega
  rw [show m+9*0+10=(m+8+1)+1 by omega,L_spec_l05Round]
  simp only [B_spec_l05Round]
  rw [cond_f (by simp)]
  exact l05Round3 s _ 8 0 m (by omega)
 | succ j ih=>
  intro i m h
  rw [show m+9*(j+1)+10=(m+9*j+10)+9 by omega,l05Round1 s.l W _ (rnds_ok keysL W hs i) hW hWl i _ (by omega)]
  exact ih (i+1) m (by omega)
theorem l05Round0 (s:Reg) (hs:s.ok) (w:List Int) (hw:∀ x ∈ w,R32 x) (hwl:w.length=16):∀ (j i m:Nat),i+j=48→L_spec_l05Round (m+9*64+10+1+j) (.c0 s.l keysL ((16+i:Nat):Int) (sched w i))=some (regAdd s (rnds keysL (sched w 48) s 64)).l:=by
 intro j
 induction j with
 | zero=>
  intro i m h
  obtain rfl:i=48:=by omega
  rw [show m+9*64+10+1+0=(m+9*64+10)+1 by omega,L_spec_l05Round]
  simp only [B_spec_l05Round]
  rw [cond_f (by simp),cond_t (by simp [Reg.l])]
  exact l05Round1s s hs _ (sched_r hw 48) (sched_len hwl 48) 64 0 m (by omega)
 | succ j ih=>
  intro i m h
  have hl:=sched_len hwl i
  have hr:=sched_r hw i
  have e2:w64 (((16+i:Nat):Int) - 2)=((16+i - 2:Nat):Int):=by rw [w64_id (by omega) (by omega)];omega
  have e7:w64 (((16+i:Nat):Int) - 7)=((16+i - 7:Nat):Int):=by rw [w64_id (by omega) (by omega)];omega
  have e15:w64 (((16+i:Nat):Int) - 15)=((16+i - 15:Nat):Int):=by rw [w64_id (by omega) (by omega)];omega
  have e16:w64 (((16+i:Nat):Int) - 16)=((16+i - 16:Nat):Int):=by rw [w64_id (by omega) (by omega)];omega
  have e1:w64 (((16+i:Nat):Int)+1)=((16+(i+1):Nat):Int):=by rw [w64_id (by omega) (by omega)];omega
  rw [show m+9*64+10+1+(j+1)=(m+9*64+10+1+j)+1 by omega,L_spec_l05Round]
  simp only [B_spec_l05Round,e1,e2,e7,e15,e16,Int.toNat_natCast,hl,p_spec_sg1 (r_getD hr _),p_spec_sg0 (r_getD hr _),Option.bind_some]
  rw [cond_t (by simp;omega),cond_t (by simp;omega),cond_t (by simp;omega),cond_t (by simp;omega),cond_t (by simp;omega),cond_t (by simp;omega)]
  exact ih (i+1) m (by omega)
theorem p_spec_l05Round {s:Reg} (hs:s.ok) {b:ByteArray} (hb:b.size=64):spec_l05Round s.l keysL b=some (comp s (bs b)).l:=by
 have hr:=wordsN_r (byt_bs b) 16
 obtain ⟨m,hm⟩:∃ m,gas=m+9*64+10+1+48:=⟨gas - 635,by have:=gas_lt (n:=635) (by omega);omega⟩
 have h:=l05Round0 s hs _ hr (wordsN_len _ 16) 48 0 m (by omega)
 have e0:((16+0:Nat):Int)=16:=rfl
 rw [e0,show sched (wordsN (bs b) 16) 0=wordsN (bs b) 16 from rfl] at h
 rw [spec_l05Round,E_spec_l05Round,p_spec_l05Words (s:=b) (by omega),Option.bind_some,hb,hm]
 exact h
theorem keys_e:spec_l05K=some keysL:=rfl
theorem blk_e (b:List Int) (i:Nat):(b.take (64*i+64)).drop (64*i)=(b.drop (64*i)).take 64:=by
 rw [List.drop_take];congr 1;omega
theorem comps_last (i:Nat) (s:Reg) (b:List Int):comps (i+1) s b=comp (comps i s b) ((b.drop (64*i)).take 64):=by
 rw [comps_add i 1];rfl
theorem words_state {r:Reg} (h:r.ok):spec_l05Words (ofBytes (bytesL r.l))=some r.l:=by
 have hs:(ofBytes (bytesL r.l)).size=32:=by rw [ofBytes_size,bytesL_len];rfl
 rw [p_spec_l05Words (by omega),hs,bs_ofBytes (bytesL_byt (Reg.l_r h))]
 exact congrArg some (wordsN_bytesL (Reg.l_r h))
theorem p_spec_HashMore0 {s:ByteArray} (hs:s.size≤1000000000):spec_HashMore hash0 s=some ⟨ofBytes (bytesL (comps (s.size / 64) reg0 (bs s)).l),s.extract (64*(s.size / 64)) s.size,(s.size:Int)⟩:=by
 have e0:spec_HasherOk hash0=some true:=p_spec_HasherOk (by rw [hash0,ofBytes_size,bytesL_len];rfl) (by decide) (by decide) (by decide)
 have e1:((⟨#[]⟩:ByteArray)++s)=s:=bs_inj (by rw [bs_append];rfl)
 have key:=loopN (A:=Unit) (n:=s.size / 64) (Lp:=L_spec_HashMore) (st:=fun i _=>.c0 s s ((64*i:Nat):Int) hash0 (⟨(⟨#[]⟩:ByteArray),(⟨#[]⟩:ByteArray),(0:Int)⟩:SHasher) (comps i reg0 (bs s)).l keysL) (Inv:=fun _ _=>True)
  (out:=fun _ _=>some ⟨ofBytes (bytesL (comps (s.size / 64) reg0 (bs s)).l),s.extract (64*(s.size / 64)) s.size,(s.size:Int)⟩)
  (fun m _ _=>by
   have hw:w64 (hash0.fCount+(s.size:Int))=(s.size:Int):=by
    show w64 ((0:Int)+(s.size:Int))=_
    rw [Int.zero_add,w64_id (by omega) (by omega)]
   rw [L_spec_HashMore]
   simp only [B_spec_HashMore,hw,Int.toNat_natCast]
   rw [w64_id (by omega) (by omega),cond_f (by simp;omega),p_spec_l05Bytes (Reg.l_r (comps_ok reg0_ok _ _)) (by simp [Reg.l]),Option.bind_some,cond_t (by simp;omega)])
  (fun m i _ hi _=>.inr ⟨(),by
   have e:w64 (((64*i:Nat):Int)+64)=((64*(i+1):Nat):Int):=by rw [w64_id (by omega) (by omega)];omega
   rw [L_spec_HashMore]
   simp only [B_spec_HashMore,e,Int.toNat_natCast]
   rw [cond_t (by simp;omega),cond_t (by simp;omega),p_spec_l05Round (comps_ok reg0_ok _ _) (by simp;omega),Option.bind_some,bs_extract,show 64*(i+1)=64*i+64 by omega,blk_e,←comps_last],trivial,rfl⟩)
 rw [spec_HashMore,E_spec_HashMore,e0,Option.bind_some,cond_f (by rfl)]
 have hw:w64 (hash0.fCount+(s.size:Int))=(s.size:Int):=by
  show w64 ((0:Int)+(s.size:Int))=_
  rw [Int.zero_add,w64_id (by omega) (by omega)]
 rw [hw,cond_f (by simp;omega),show hash0.fState=ofBytes (bytesL reg0.l) from rfl,words_state reg0_ok,Option.bind_some,keys_e,Option.bind_some,show hash0.fRest=⟨#[]⟩ from rfl,e1]
 rw [cond_t (by (have:(⟨#[]⟩:ByteArray).size=0:=rfl);simp only [this,decide_eq_true_eq];omega)]
 exact key gas 0 () (Nat.zero_le _) (gas_lt (by omega)) trivial
def bigL (b:Int):Nat→List Int
 | 0=>[]
 | i+1=>(b / 256 ^ i % 256)::bigL b i
def bigCost:Nat→Nat
 | 0=>0
 | i+1=>bigCost i+(i+2)
theorem div_step (x:Int) (j:Nat):x / 256 / 256 ^ j=x / 256 ^ (j+1):=by
 rw [Int.ediv_ediv_of_nonneg (by omega)]
 congr 1
 rw [Int.pow_succ,Int.mul_comm]
theorem hend2 (h:SHasher) (b:Int):∀ (j k i m:Nat) (x:Int) (t:List Int),k+j=i→i≤7→0≤x→x≤9223372036854775807→t.length≤1000→
  L_spec_HashEnd (m+j+1) (.c2 b (i:Int) x (k:Int) h t)=L_spec_HashEnd m (.c1 b ((i:Int) - 1) h (t++[x / 256 ^ j % 256])):=by
 intro j
 induction j with
 | zero=>
  intro k i m x t hk hi hx hx2 ht
  have e:w64 ((i:Int) - 1)=(i:Int) - 1:=w64_id (by omega) (by omega)
  have e2:w8 (x.tmod 256)=x % 256:=by rw [Int.tmod_eq_emod_of_nonneg hx,w8_id (by omega) (by omega)]
  rw [L_spec_HashEnd]
  simp only [B_spec_HashEnd,e,e2]
  rw [cond_f (by simp;omega),cond_t (by simp;omega),Int.pow_zero,Int.ediv_one]
 | succ j ih=>
  intro k i m x t hk hi hx hx2 ht
  have e:w64 ((k:Int)+1)=((k+1:Nat):Int):=by rw [w64_id (by omega) (by omega)];rfl
  have e2:w64 (x.tdiv 256)=x / 256:=by rw [Int.tdiv_eq_ediv_of_nonneg hx,w64_id (by omega) (by omega)]
  rw [show m+(j+1)+1=(m+j+1)+1 by omega,L_spec_HashEnd]
  simp only [B_spec_HashEnd,e,e2]
  rw [cond_t (by simp;omega),ih (k+1) i m (x / 256) t (by omega) hi (by omega) (by omega) ht,div_step]
theorem hend1 (h:SHasher) (b:Int) (hb:0≤b) (hb2:b≤9223372036854775807):∀ (i m:Nat) (t:List Int),i≤8→t.length+i≤900→L_spec_HashEnd (m+bigCost i) (.c1 b ((i:Int) - 1) h t)=L_spec_HashEnd m (.c1 b (-1) h (t++bigL b i)):=by
 intro i
 induction i with
 | zero=>intro m t _ _;simp [bigCost,bigL]
 | succ i ih=>
  intro m t hi ht
  rw [bigCost,show m+(bigCost i+(i+2))=(m+bigCost i)+i+1+1 by omega,L_spec_HashEnd,show ((i+1:Nat):Int) - 1=(i:Int) by omega]
  simp only [B_spec_HashEnd]
  rw [cond_t (by simp),show (0:Int)=((0:Nat):Int) from rfl,hend2 h b i 0 i _ b t (by omega) (by omega) hb hb2 (by omega),ih m _ (by omega) (by simp;omega)]
  simp [bigL]
theorem bigL_big8 {b:Int} (h:0≤b) (h2:b<1099511627776):bigL b 8=big8 b:=by
 simp only [bigL,big8,List.cons.injEq,and_true]
 omega
theorem hend3 (r:Reg) (hr:r.ok) (t:List Int) (ht:Byt t) (n:Nat) (hn:t.length=64*n) (hn2:n≤100):∀ (j i m:Nat),i+j=n→L_spec_HashEnd (m+j+1) (.c3 ((64*i:Nat):Int) t (comps i r t).l keysL)=some (ofBytes (bytesL (comps n r t).l)):=by
 intro j
 induction j with
 | zero=>
  intro i m h
  obtain rfl:i=n:=by omega
  rw [L_spec_HashEnd]
  simp only [B_spec_HashEnd]
  rw [cond_f (by simp;omega),p_spec_l05Bytes (Reg.l_r (comps_ok hr _ _)) (by simp [Reg.l]),Option.bind_some]
 | succ j ih=>
  intro i m h
  have e:w64 (((64*i:Nat):Int)+64)=((64*(i+1):Nat):Int):=by rw [w64_id (by omega) (by omega)];omega
  have hl:((t.drop (64*i)).take (64*(i+1) - 64*i)).length=64:=by rw [List.length_take,List.length_drop];omega
  have hby:Byt ((t.drop (64*i)).take (64*(i+1) - 64*i)):=fun x hx=>ht x (List.mem_of_mem_drop (List.mem_of_mem_take hx))
  rw [show m+(j+1)+1=(m+j+1)+1 by omega,L_spec_HashEnd]
  simp only [B_spec_HashEnd,e,Int.toNat_natCast]
  rw [cond_t (by simp;omega),cond_t (by simp;omega),p_spec_l05Round (comps_ok hr _ _) (by rw [ofBytes_size,hl]),Option.bind_some,bs_ofBytes hby,show 64*(i+1) - 64*i=64 by omega,←comps_last]
  exact ih (i+1) m (by omega)
theorem hend0 (h:SHasher) (r:List Int) (hr:r.length<64):∀ (j i m:Nat),i+j=(119 - r.length) % 64→L_spec_HashEnd (m+j+1) (.c0 h (r++128::List.replicate i 0))=L_spec_HashEnd m (.c1 (w64 (8*h.fCount)) 7 h (r++128::List.replicate ((119 - r.length) % 64) 0)):=by
 intro j
 induction j with
 | zero=>
  intro i m hi
  rw [L_spec_HashEnd]
  simp only [B_spec_HashEnd]
  rw [cond_f (by rw [Int.tmod_eq_emod_of_nonneg (by omega)];simp;omega),show i=(119 - r.length) % 64 by omega]
 | succ j ih=>
  intro i m hi
  rw [show m+(j+1)+1=(m+j+1)+1 by omega,L_spec_HashEnd]
  simp only [B_spec_HashEnd]
  rw [cond_t (by rw [Int.tmod_eq_emod_of_nonneg (by omega)];simp;omega),cond_t (by simp;omega)]
  have e:(r++128::List.replicate i (0:Int))++[0]=r++128::List.replicate (i+1) 0:=by
   rw [List.replicate_succ'];simp
  rw [e]
  exact ih (i+1) m (by omega)
theorem p_spec_HashEnd {r:Reg} (hr:r.ok) {s:ByteArray} {n:Nat} (hs:s.size=n % 64) (hn:n≤1000000000):spec_HashEnd ⟨ofBytes (bytesL r.l),s,(n:Int)⟩=some (ofBytes (bytesL (comps ((s.size+(endL n).length) / 64) r (bs s++endL n)).l)):=by
 have e0:spec_HasherOk ⟨ofBytes (bytesL r.l),s,(n:Int)⟩=some true:=p_spec_HasherOk (by rw [ofBytes_size,bytesL_len];rfl) (by simp only;omega) (by simp only;omega) (by simp only;omega)
 have hl:=bs_len s
 obtain ⟨m,hm⟩:∃ m,gas=((m+((s.size+(endL n).length) / 64)+1+1+bigCost 8)+((119 - (bs s).length) % 64)+1):=⟨gas - (((s.size+(endL n).length) / 64)+1+1+bigCost 8+((119 - (bs s).length) % 64)+1),by
  have:=gas_lt (n:=1000) (by omega)
  have h2:=endL_len n
  have h3:bigCost 8=44:=rfl
  omega⟩
 have hw:w64 (8*(n:Int))=8*(n:Int):=w64_id (by omega) (by omega)
 have hrep:(bs s++128::List.replicate ((119 - (bs s).length) % 64) 0)++bigL (8*(n:Int)) 8=bs s++endL n:=by
  rw [bigL_big8 (by omega) (by omega),endL,hl,hs,show (119 - n % 64) % 64=(119 - n % 64) % 64 from rfl]
  simp
 rw [spec_HashEnd,E_spec_HashEnd,e0,Option.bind_some,cond_f (by rfl),cond_t (by simp;omega),bytesOf_bs,cond_t (by rw [hl];simp;omega),hm]
 have h0:=hend0 ⟨ofBytes (bytesL r.l),s,(n:Int)⟩ (bs s) (by omega) ((119 - (bs s).length) % 64) 0 (m+((s.size+(endL n).length) / 64)+1+1+bigCost 8) (by omega)
 rw [List.replicate_zero] at h0
 rw [h0,show (7:Int)=((8:Nat):Int) - 1 from rfl]
 simp only [hw]
 rw [hend1 _ _ (by omega) (by omega) 8 _ _ (by omega) (by simp;omega),hrep,L_spec_HashEnd]
 simp only [B_spec_HashEnd]
 rw [cond_f (by simp),words_state hr,Option.bind_some,keys_e,Option.bind_some]
 have hb:Byt (bs s++endL n):=fun x hx=>by
  rcases List.mem_append.1 hx with hx | hx
  ·exact byt_bs s x hx
  ·exact endL_byt n x hx
 have hlen:(bs s++endL n).length=64*((s.size+(endL n).length) / 64):=by
  have:=end_whole n
  rw [List.length_append,hl]
  omega
 exact hend3 r hr _ hb _ hlen (by have:=endL_len n;omega) ((s.size+(endL n).length) / 64) 0 m (by omega)
theorem dig_split (b:List Int):comps ((b.length+(endL b.length).length) / 64) reg0 (b++endL b.length)=comps ((b.length % 64+(endL b.length).length) / 64) (comps (b.length / 64) reg0 b) (b.drop (64*(b.length / 64))++endL b.length):=by
 rw [show (b.length+(endL b.length).length) / 64=b.length / 64+(b.length % 64+(endL b.length).length) / 64 by omega,comps_add,comps_app _ _ _ _ (by omega),List.drop_append_of_le_length (by omega)]
theorem p_spec_DigestOf {s:ByteArray} (hs:s.size≤1000000000):spec_DigestOf s=some (dig s):=by
 have h1:(s.extract (64*(s.size / 64)) s.size).size=s.size % 64:=by simp;omega
 have h:=p_spec_HashEnd (comps_ok reg0_ok (s.size / 64) (bs s)) (s:=s.extract (64*(s.size / 64)) s.size) h1 hs
 rw [bs_extract,h1,List.take_of_length_le (by rw [bs_len];omega)] at h
 rw [spec_DigestOf,E_spec_DigestOf,p_spec_HasherNew,Option.bind_some,p_spec_HashMore0 hs,Option.bind_some,h,Option.bind_some,dig,digL,dig_split,bs_len]
theorem p_impl_zeros {n:Nat} (h:n≤1000000000):impl_zeros (n:Int)=some (ofBytes (List.replicate n 0)):=by
 simp only [impl_zeros,E_impl_zeros,Int.toNat_natCast]
 rw [cond_t (by simp;omega)]
theorem p_impl_fourBytes {x:Int} (h:R32 x):impl_fourBytes x=some (ofBytes (four x)):=by
 obtain ⟨h1,h2⟩:=h
 have e1:Int.fdiv x (2 ^ (Min.min (24:Int).toNat (IntKind.bits IntKind.u32)))=x / 16777216:=Int.fdiv_eq_ediv_of_nonneg _ (by decide)
 have e2:Int.fdiv x (2 ^ (Min.min (16:Int).toNat (IntKind.bits IntKind.u32)))=x / 65536:=Int.fdiv_eq_ediv_of_nonneg _ (by decide)
 have e3:Int.fdiv x (2 ^ (Min.min (8:Int).toNat (IntKind.bits IntKind.u32)))=x / 256:=Int.fdiv_eq_ediv_of_nonneg _ (by decide)
 simp only [impl_fourBytes,E_impl_fourBytes,e1,e2,e3,w8_mod,four]
 rw [show x / 16777216 % 256=x / 16777216 by omega]
theorem p_impl_eightBytes {n:Nat} (h:n<1099511627776):impl_eightBytes (n:Int)=some (ofBytes (big8 (n:Int))):=by
 have e1:Int.fdiv (n:Int) (2 ^ (Min.min (32:Int).toNat (IntKind.bits IntKind.i64)))=(n:Int) / 4294967296:=Int.fdiv_eq_ediv_of_nonneg _ (by decide)
 simp only [impl_eightBytes,E_impl_eightBytes,e1,p_impl_fourBytes (r32_w _),Option.bind_some]
 rw [cond_t (by rw [ofBytes_size,ofBytes_size];simp [four])]
 congr 1
 apply bs_inj
 rw [bs_append,bs_ofBytes (four_byt (r32_w _)),bs_ofBytes (four_byt (r32_w _)),bs_ofBytes (fun x hx=>by
  simp only [big8,List.mem_cons,List.not_mem_nil,or_false] at hx
  omega)]
 simp only [four,big8,w32_mod,List.cons_append,List.nil_append,List.cons.injEq,and_true]
 omega
theorem p_impl_ending {n:Nat} (h:n≤100000000000):impl_ending (n:Int)=some (ofBytes (endL n)):=by
 have e1:(w64 (119 - ((n:Int).tmod 64))).tmod 64=(((119 - n % 64) % 64:Nat):Int):=by
  have a:(n:Int).tmod 64=(n:Int) % 64:=Int.tmod_eq_emod_of_nonneg (by omega)
  rw [a,w64_id (by omega) (by omega),Int.tmod_eq_emod_of_nonneg (by omega)]
  omega
 have e2:w64 (8*(n:Int))=((8*n:Nat):Int):=by rw [w64_id (by omega) (by omega)];omega
 have h0:(⟨#[128]⟩:ByteArray).size=1:=rfl
 simp only [impl_ending,E_impl_ending,e1,e2,p_impl_zeros (n:=(119 - n % 64) % 64) (by omega),p_impl_eightBytes (n:=8*n) (by omega),Option.bind_some]
 rw [cond_t (by rw [ofBytes_size];simp [h0];omega),cond_t (by rw [ByteArray.size_append,ofBytes_size,ofBytes_size];simp [h0,big8];omega)]
 congr 1
 apply bs_inj
 have hb:Byt (List.replicate ((119 - n % 64) % 64) (0:Int)):=fun x hx=>by
  have:=List.eq_of_mem_replicate hx;omega
 have hb2:Byt (big8 ((8*n:Nat):Int)):=fun x hx=>by
  simp only [big8,List.mem_cons,List.not_mem_nil,or_false] at hx
  omega
 rw [bs_append,bs_append,bs_ofBytes hb,bs_ofBytes hb2,bs_ofBytes (endL_byt n),endL]
 have e3:bs (⟨#[128]⟩:ByteArray)=[128]:=rfl
 rw [e3]
 simp
theorem rot_gen {x:Int} (h:R32 x) (n:Nat) (hn:0<n) (hn2:n<32) (k:Int) (hk:wu64 (((BitVec.toNat ((BitVec.ofInt (IntKind.bits IntKind.u64) (wu64 k)) &&& (BitVec.ofInt (IntKind.bits IntKind.u64) (31:Int)))):Nat):Int)=((32 - n:Nat):Int))
  (hk2:wu64 (32 - ((32 - n:Nat):Int))=(n:Int)):math_bits_RotateLeft32 x k=some (rt (2 ^ n) (2 ^ (32 - n)) x):=by
 have e1:Min.min ((32 - n:Nat):Int).toNat (IntKind.bits IntKind.u32)=32 - n:=by
  show Min.min ((32 - n:Nat):Int).toNat 32=_
  omega
 have e2:Min.min (n:Int).toNat (IntKind.bits IntKind.u32)=n:=by
  show Min.min (n:Int).toNat 32=_
  omega
 have e3:Int.fdiv x (2 ^ n)=x / 2 ^ n:=Int.fdiv_eq_ediv_of_nonneg _ (Int.le_of_lt (Int.pow_pos (by omega)))
 simp only [math_bits_RotateLeft32,E_math_bits_RotateLeft32,hk,hk2,e1,e2,e3]
 rw [show decide ((0:Int)≤(n:Int))=true from decide_eq_true (by omega)]
 simp only [cond_true,ort_e]
 rw [rt_or h n hn hn2]
theorem right_gen {x:Int} (h:R32 x) (n:Nat) (hn:0<n) (hn2:n<32) (hk:wu64 (((BitVec.toNat ((BitVec.ofInt (IntKind.bits IntKind.u64) (wu64 (w64 (0 - (n:Int))))) &&& (BitVec.ofInt (IntKind.bits IntKind.u64) (31:Int)))):Nat):Int)=((32 - n:Nat):Int))
  (hk2:wu64 (32 - ((32 - n:Nat):Int))=(n:Int)):impl_right x (n:Int)=some (rt (2 ^ n) (2 ^ (32 - n)) x):=by
 simp only [impl_right,E_impl_right,rot_gen h n hn hn2 _ hk hk2,Option.bind_some]
theorem right2 {x:Int} (h:R32 x):impl_right x 2=some (rt 4 1073741824 x):=right_gen h 2 (by decide) (by decide) (by decide) (by decide)
theorem right13 {x:Int} (h:R32 x):impl_right x 13=some (rt 8192 524288 x):=right_gen h 13 (by decide) (by decide) (by decide) (by decide)
theorem right22 {x:Int} (h:R32 x):impl_right x 22=some (rt 4194304 1024 x):=right_gen h 22 (by decide) (by decide) (by decide) (by decide)
theorem right6 {x:Int} (h:R32 x):impl_right x 6=some (rt 64 67108864 x):=right_gen h 6 (by decide) (by decide) (by decide) (by decide)
theorem right11 {x:Int} (h:R32 x):impl_right x 11=some (rt 2048 2097152 x):=right_gen h 11 (by decide) (by decide) (by decide) (by decide)
theorem right25 {x:Int} (h:R32 x):impl_right x 25=some (rt 33554432 128 x):=right_gen h 25 (by decide) (by decide) (by decide) (by decide)
theorem right7 {x:Int} (h:R32 x):impl_right x 7=some (rt 128 33554432 x):=right_gen h 7 (by decide) (by decide) (by decide) (by decide)
theorem right18 {x:Int} (h:R32 x):impl_right x 18=some (rt 262144 16384 x):=right_gen h 18 (by decide) (by decide) (by decide) (by decide)
theorem right17 {x:Int} (h:R32 x):impl_right x 17=some (rt 131072 32768 x):=right_gen h 17 (by decide) (by decide) (by decide) (by decide)
theorem right19 {x:Int} (h:R32 x):impl_right x 19=some (rt 524288 8192 x):=right_gen h 19 (by decide) (by decide) (by decide) (by decide)
theorem ort_step {a b:Int} (ha:0≤a∧a<16777216) (hb:0≤b∧b≤255):ort (w32 (a*256)) (w32 b)=a*256+b:=by
 obtain ⟨x,rfl⟩:∃ x:Nat,a=(x:Int):=⟨a.toNat,by omega⟩
 obtain ⟨y,rfl⟩:∃ y:Nat,b=(y:Int):=⟨b.toNat,by omega⟩
 rw [w32_id (by omega) (by omega),w32_id (by omega) (by omega)]
 have:=ort_add (a:=x) (b:=y) (s:=8) (by omega) (by omega) (by omega)
 have e:((x*2 ^ 8:Nat):Int)=(x:Int)*256:=by omega
 rw [Int.natCast_add,e] at this
 exact this
def wpart (l:List Int) (i:Nat):Nat→Int
 | 0=>0
 | k+1=>wpart l i k*256+l.getD (4*i+k) 0
theorem wpart4 (l:List Int) (i:Nat):wpart l i 4=wordAt l i:=by
 simp only [wpart,wordAt,be4,Nat.add_zero]
 omega
theorem wpart_r {l:List Int} (h:Byt l) (i:Nat):∀ k,k<4→0≤wpart l i k∧wpart l i k<16777216
 | 0,_=>by simp [wpart]
 | 1,_=>by have:=byt_getD h (4*i+0);simp only [wpart];omega
 | 2,_=>by have:=byt_getD h (4*i+0);have:=byt_getD h (4*i+1);simp only [wpart];omega
 | 3,_=>by have:=byt_getD h (4*i+0);have:=byt_getD h (4*i+1);have:=byt_getD h (4*i+2);simp only [wpart];omega
theorem wordsOf1 {b:ByteArray} (hb:b.size=64) (v:List Int) (i:Nat) (hi:i<16):∀ (j k m:Nat),k+j=4→
  L_impl_wordsOf (m+j+1) (.c1 b (i:Int) (i:Int) (k:Int) v (wordsN (bs b) i++wpart (bs b) i k::List.replicate (63 - i) 0))=L_impl_wordsOf m (.c0 b ((i+1:Nat):Int) v (wordsN (bs b) (i+1)++List.replicate (63 - i) 0)):=by
 have hby:=byt_bs b
 intro j
 induction j with
 | zero=>
  intro k m h
  obtain rfl:k=4:=by omega
  have e:w64 ((i:Int)+1)=((i+1:Nat):Int):=by rw [w64_id (by omega) (by omega)];rfl
  rw [L_impl_wordsOf]
  simp only [B_impl_wordsOf,e]
  rw [cond_f (by simp),wpart4,wordsN_succ]
  simp
 | succ j ih=>
  intro k m h
  have hk:k<4:=by omega
  have hlen:(wordsN (bs b) i++wpart (bs b) i k::List.replicate (63 - i) 0).length=64:=by
   simp only [List.length_append,List.length_cons,List.length_replicate,wordsN_len];omega
  have e:w64 ((k:Int)+1)=((k+1:Nat):Int):=by rw [w64_id (by omega) (by omega)];rfl
  have e4:w64 (4*(i:Int))=((4*i:Nat):Int):=by rw [w64_id (by omega) (by omega)];omega
  have e5:w64 (((4*i:Nat):Int)+(k:Int))=((4*i+k:Nat):Int):=by rw [w64_id (by omega) (by omega)];omega
  have e8:(2:Int) ^ (Min.min (8:Int).toNat (IntKind.bits IntKind.u32))=256:=by decide
  have hg:(wordsN (bs b) i++wpart (bs b) i k::List.replicate (63 - i) 0).getD i 0=wpart (bs b) i k:=by
   rw [getD_app2 (by rw [wordsN_len];omega),wordsN_len,Nat.sub_self];rfl
  rw [show m+(j+1)+1=(m+j+1)+1 by omega,L_impl_wordsOf]
  simp only [B_impl_wordsOf,e,e4,e5,e8,Int.toNat_natCast,hlen,hg,ort_e]
  rw [cond_t (by simp;omega),cond_t (by rfl),cond_t (by simp;omega),cond_t (by simp;omega),cond_t (by rfl),cond_t (by simp;omega)]
  rw [bt_getD (by omega),ort_step (wpart_r hby i k hk) (byt_getD hby _),set_app (wordsN_len _ i)]
  exact ih (k+1) m (by omega)
theorem wordsOf0 {b:ByteArray} (hb:b.size=64) (v:List Int):∀ (j i m:Nat),i+j=16→L_impl_wordsOf (m+6*j+1) (.c0 b (i:Int) v (wordsN (bs b) i++List.replicate (64 - i) 0))=L_impl_wordsOf m (.c2 16 v (wordsN (bs b) 16++List.replicate 48 0)):=by
 intro j
 induction j with
 | zero=>
  intro i m h
  obtain rfl:i=16:=by omega
  rw [L_impl_wordsOf]
  simp only [B_impl_wordsOf]
  rw [cond_f (by simp)]
 | succ j ih=>
  intro i m h
  rw [show m+6*(j+1)+1=(m+6*j+1)+4+1+1 by omega,L_impl_wordsOf]
  simp only [B_impl_wordsOf]
  rw [cond_t (by simp;omega)]
  have h1:=wordsOf1 hb v i (by omega) 4 0 (m+6*j+1) (by omega)
  rw [show 64 - i=(63 - i)+1 by omega,List.replicate_succ]
  have h2:=ih (i+1) m (by omega)
  rw [show 64 - (i+1)=63 - i by omega] at h2
  exact h1.trans h2
theorem wordsOf2 {w v:List Int} (hw:∀ x ∈ w,R32 x) (hwl:w.length=16) (hv:v.length=64):∀ (j i m:Nat),i+j=48→L_impl_wordsOf (m+j+1) (.c2 ((16+i:Nat):Int) v (sched w i++List.replicate (48 - i) 0))=some (sched w 48):=by
 intro j
 induction j with
 | zero=>
  intro i m h
  obtain rfl:i=48:=by omega
  have hl:=sched_len hwl 48
  rw [L_impl_wordsOf]
  simp only [B_impl_wordsOf,Nat.sub_self,List.replicate_zero,List.append_nil,hl,hv]
  rfl
 | succ j ih=>
  intro i m h
  have hl:=sched_len hwl i
  have hr:=sched_r hw i
  have hlen:(sched w i++List.replicate (48 - i) 0).length=64:=by
   simp only [List.length_append,List.length_replicate,hl];omega
  have e2:w64 (((16+i:Nat):Int) - 2)=((16+i - 2:Nat):Int):=by rw [w64_id (by omega) (by omega)];omega
  have e7:w64 (((16+i:Nat):Int) - 7)=((16+i - 7:Nat):Int):=by rw [w64_id (by omega) (by omega)];omega
  have e15:w64 (((16+i:Nat):Int) - 15)=((16+i - 15:Nat):Int):=by rw [w64_id (by omega) (by omega)];omega
  have e16:w64 (((16+i:Nat):Int) - 16)=((16+i - 16:Nat):Int):=by rw [w64_id (by omega) (by omega)];omega
  have e1:w64 (((16+i:Nat):Int)+1)=((16+(i+1):Nat):Int):=by rw [w64_id (by omega) (by omega)];omega
  have g2:(sched w i++List.replicate (48 - i) 0).getD (16+i - 2) 0=(sched w i).getD (16+i - 2) 0:=getD_app1 (by omega) 0
  have g7:(sched w i++List.replicate (48 - i) 0).getD (16+i - 7) 0=(sched w i).getD (16+i - 7) 0:=getD_app1 (by omega) 0
  have g15:(sched w i++List.replicate (48 - i) 0).getD (16+i - 15) 0=(sched w i).getD (16+i - 15) 0:=getD_app1 (by omega) 0
  have g16:(sched w i++List.replicate (48 - i) 0).getD (16+i - 16) 0=(sched w i).getD (16+i - 16) 0:=getD_app1 (by omega) 0
  have f10:∀ x:Int,Int.fdiv x (2 ^ (Min.min (10:Int).toNat (IntKind.bits IntKind.u32)))=x / 1024:=fun x=>Int.fdiv_eq_ediv_of_nonneg _ (by decide)
  have f3:∀ x:Int,Int.fdiv x (2 ^ (Min.min (3:Int).toNat (IntKind.bits IntKind.u32)))=x / 8:=fun x=>Int.fdiv_eq_ediv_of_nonneg _ (by decide)
  have r15:=r_getD hr (16+i - 15)
  have r2:=r_getD hr (16+i - 2)
  rw [show m+(j+1)+1=(m+j+1)+1 by omega,L_impl_wordsOf]
  simp only [B_impl_wordsOf,e1,e2,e7,e15,e16,Int.toNat_natCast,hlen,g2,g7,g15,g16,right7 r15,right18 r15,right17 r2,right19 r2,Option.bind_some,f10,f3,xr_e]
  rw [cond_t (by simp;omega),cond_t (by rfl),cond_t (by simp;omega),cond_t (by rfl),cond_t (by simp;omega),cond_t (by rfl),cond_t (by simp;omega),cond_t (by rfl),cond_t (by simp;omega),cond_t (by rfl),cond_t (by simp;omega)]
  rw [show 48 - i=(48 - (i+1))+1 by omega,List.replicate_succ,set_app (by omega)]
  have h2:=ih (i+1) m (by omega)
  rw [sched,List.append_assoc] at h2
  exact h2
theorem p_impl_wordsOf {b:ByteArray} (hb:b.size=64):impl_wordsOf b=some (sched (wordsN (bs b) 16) 48):=by
 obtain ⟨m,hm⟩:∃ m,gas=(m+48+1)+6*16+1:=⟨gas - 146,by have:=gas_lt (n:=146) (by omega);omega⟩
 rw [impl_wordsOf,E_impl_wordsOf,hm]
 have h0:=wordsOf0 hb (List.replicate 64 0) 16 0 (m+48+1) (by omega)
 have h2:=wordsOf2 (w:=wordsN (bs b) 16) (v:=List.replicate 64 0) (wordsN_r (byt_bs b) 16) (wordsN_len _ 16) (List.length_replicate ..) 48 0 m (by omega)
 rw [show wordsN (bs b) 0++List.replicate (64 - 0) 0=List.replicate 64 (0:Int) from rfl,show ((0:Nat):Int)=0 from rfl] at h0
 rw [show ((16+0:Nat):Int)=16 from rfl,show sched (wordsN (bs b) 16) 0=wordsN (bs b) 16 from rfl,show 48 - 0=48 from rfl] at h2
 rw [h0,h2]
theorem oneBlock1 (s r v:List Int) (hs:s.length=8) (hv:v.length=8) (f:Nat→Int) (hf:∀ i,i<8→f i=w32 (r.getD i 0+s.getD i 0)) (hr:r.length=8):∀ (j i m:Nat),i+j=8→L_impl_oneBlock (m+j+1) (.c1 (i:Int) s v ((List.range i).map f++r.drop i))=some ((List.range 8).map f):=by
 intro j
 induction j with
 | zero=>
  intro i m h
  obtain rfl:i=8:=by omega
  rw [L_impl_oneBlock]
  simp only [B_impl_oneBlock]
  rw [cond_f (by simp),List.drop_of_length_le (by omega),List.append_nil,cond_t (by simp),cond_t (by simp [hv]),cond_t (by simp)]
 | succ j ih=>
  intro i m h
  have e:w64 ((i:Int)+1)=((i+1:Nat):Int):=by rw [w64_id (by omega) (by omega)];rfl
  have hl:((List.range i).map f++r.drop i).length=8:=by simp [hr];omega
  have hm:((List.range i).map f).length=i:=by simp
  have hg:((List.range i).map f++r.drop i).getD i 0=r.getD i 0:=by
   rw [getD_app2 (by omega),hm,Nat.sub_self]
   simp [List.getD]
  rw [show m+(j+1)+1=(m+j+1)+1 by omega,L_impl_oneBlock]
  simp only [B_impl_oneBlock,e,Int.toNat_natCast,hl,hs,hg]
  rw [cond_t (by simp;omega),cond_t (by rfl),cond_t (by simp;omega),cond_t (by rfl),cond_t (by simp;omega),cond_t (by rfl),cond_t (by simp;omega)]
  rw [drop_at (by omega:i<r.length),set_app hm,←hf i (by omega)]
  have h2:=ih (i+1) m (by omega)
  rw [List.range_succ,List.map_append,List.append_assoc] at h2
  exact h2
theorem oneBlock0 (s v W:List Int) (hW:∀ x ∈ W,R32 x) (hWl:W.length=64) (r:Reg) (hr:r.ok) (i m:Nat) (hi:i<64) :
  L_impl_oneBlock (m+1) (.c0 r.a r.b r.c r.d r.e r.f r.g r.h (i:Int) s v W)=L_impl_oneBlock m (.c0 (rnd r (keysL.getD i 0) (W.getD i 0)).a (rnd r (keysL.getD i 0) (W.getD i 0)).b (rnd r (keysL.getD i 0) (W.getD i 0)).c (rnd r (keysL.getD i 0) (W.getD i 0)).d (rnd r (keysL.getD i 0) (W.getD i 0)).e (rnd r (keysL.getD i 0) (W.getD i 0)).f (rnd r (keysL.getD i 0) (W.getD i 0)).g (rnd r (keysL.getD i 0) (W.getD i 0)).h ((i+1:Nat):Int) s v W):=by
 obtain ⟨h1,h2,h3,h4,h5,h6,h7,h8⟩:=hr
 have e:w64 ((i:Int)+1)=((i+1:Nat):Int):=by rw [w64_id (by omega) (by omega)];rfl
 rw [L_impl_oneBlock]
 simp only [B_impl_oneBlock,e,Int.toNat_natCast,hWl,right6 h5,right11 h5,right25 h5,right2 h1,right13 h1,right22 h1,Option.bind_some,xr_e,an_e,xr_max h5]
 rw [cond_t (by simp;omega),cond_t (by simp;omega),cond_t (by rw [Nat.blt_eq];omega),cond_t (by rfl),cond_t (by simp;omega)]
 rfl
theorem oneBlock0s (s v W:List Int) (hW:∀ x ∈ W,R32 x) (hWl:W.length=64) (r:Reg) (hr:r.ok):∀ (j i m:Nat),i+j=64→
  L_impl_oneBlock (m+j+1) (.c0 (rnds keysL W r i).a (rnds keysL W r i).b (rnds keysL W r i).c (rnds keysL W r i).d (rnds keysL W r i).e (rnds keysL W r i).f (rnds keysL W r i).g (rnds keysL W r i).h (i:Int) s v W)=L_impl_oneBlock m (.c1 0 s v (rnds keysL W r 64).l):=by
 intro j
 induction j with
 | zero=>
  intro i m h
  obtain rfl:i=64:=by omega
  rw [L_impl_oneBlock]
  simp only [B_impl_oneBlock]
  rw [cond_f (by simp)]
  rfl
 | succ j ih=>
  intro i m h
  rw [show m+(j+1)+1=(m+j+1)+1 by omega,oneBlock0 s v W hW hWl _ (rnds_ok keysL W hr i) i _ (by omega)]
  exact ih (i+1) m (by omega)
theorem p_impl_oneBlock {s:Reg} (hs:s.ok) {b:ByteArray} (hb:b.size=64):impl_oneBlock s.l b=some (comp s (bs b)).l:=by
 obtain ⟨m,hm⟩:∃ m,gas=(m+8+1)+64+1:=⟨gas - 74,by have:=gas_lt (n:=74) (by omega);omega⟩
 have hr:=sched_r (wordsN_r (byt_bs b) 16) 48
 have hl:=sched_len (wordsN_len (bs b) 16) 48
 have hsl:s.l.length=8:=rfl
 have z0:(0:Int).toNat=0:=rfl
 have z1:(1:Int).toNat=1:=rfl
 have z2:(2:Int).toNat=2:=rfl
 have z3:(3:Int).toNat=3:=rfl
 have z4:(4:Int).toNat=4:=rfl
 have z5:(5:Int).toNat=5:=rfl
 have z6:(6:Int).toNat=6:=rfl
 have z7:(7:Int).toNat=7:=rfl
 rw [impl_oneBlock,E_impl_oneBlock,p_impl_wordsOf hb,Option.bind_some,hm]
 simp only [hl,hsl,List.length_replicate,z0,z1,z2,z3,z4,z5,z6,z7]
 rw [cond_t (by rfl),cond_t (by rfl),cond_t (by rfl),cond_t (by rfl),cond_t (by rfl),cond_t (by rfl),cond_t (by rfl),cond_t (by rfl),cond_t (by rfl),cond_t (by rfl),cond_t (by rfl),cond_t (by rfl),cond_t (by rfl),cond_t (by rfl),cond_t (by rfl),cond_t (by rfl),cond_t (by rfl)]
 have h0:=oneBlock0s s.l [0,0,0,0,0,0,0,0] _ hr hl s hs 64 0 (m+8+1) (by omega)
 rw [show ((0:Nat):Int)=0 from rfl] at h0
 have hf:∀ i,i<8→(fun i=>w32 ((rnds keysL (sched (wordsN (bs b) 16) 48) s 64).l.getD i 0+s.l.getD i 0)) i=w32 ((rnds keysL (sched (wordsN (bs b) 16) 48) s 64).l.getD i 0+s.l.getD i 0):=fun _ _=>rfl
 have h1:=oneBlock1 s.l (rnds keysL (sched (wordsN (bs b) 16) 48) s 64).l [0,0,0,0,0,0,0,0] rfl rfl _ hf rfl 8 0 m (by omega)
 rw [show ((0:Nat):Int)=0 from rfl,List.range_zero,List.map_nil,List.nil_append,List.drop_zero] at h1
 have e:(List.range 8).map (fun i=>w32 ((rnds keysL (sched (wordsN (bs b) 16) 48) s 64).l.getD i 0+s.l.getD i 0))=(comp s (bs b)).l:=by
  apply List.ext_getElem
  ·rw [Reg.l_len,List.length_map,List.length_range]
  ·intro i h1 h2
   have hi:i<8:=by simpa using h1
   rw [List.getElem_map,List.getElem_range,←getD_at h2 0]
   rw [comp,regAdd_at _ _ i hi,Int.add_comm]
 rw [e] at h1
 exact h0.trans h1
theorem p_impl_blocks {s:Reg} (hs:s.ok) {t:ByteArray} (ht:t.size≤1000000000000):impl_blocks s.l t=some ((comps (t.size / 64) s (bs t)).l,t.extract (64*(t.size / 64)) t.size):=by
 have key:∀ (j:Nat) (s:Reg) (t:ByteArray) (m:Nat),s.ok→t.size / 64=j→t.size≤1000000000000→L_impl_blocks (m+j+1) (.c0 t s.l [0,0,0,0,0,0,0,0])=some ((comps j s (bs t)).l,t.extract (64*j) t.size):=by
  intro j
  induction j with
  | zero=>
   intro s t m hs hj ht
   rw [L_impl_blocks]
   simp only [B_impl_blocks,Reg.l_len]
   rw [cond_f (by simp;omega),cond_t (by rfl),cond_t (by rfl),cond_t (by rfl)]
   congr 2
   apply bs_inj
   rw [bs_extract,List.take_of_length_le (by rw [bs_len];omega)]
   rfl
  | succ j ih=>
   intro s t m hs hj ht
   have h64:(64:Int).toNat=64:=rfl
   have e1:bs (t.extract 0 64)=(bs t).take 64:=by rw [bs_extract];rfl
   have e2:bs (t.extract 64 t.size)=(bs t).drop 64:=by rw [bs_extract,List.take_of_length_le (by rw [bs_len];omega)]
   rw [show m+(j+1)+1=(m+j+1)+1 by omega,L_impl_blocks]
   simp only [B_impl_blocks,h64,Reg.l_len]
   rw [cond_t (by simp;omega),cond_t (by rfl),cond_t (by simp;omega)]
   rw [p_impl_oneBlock hs (b:=t.extract 0 64) (by simp;omega),Option.bind_some]
   rw [Reg.l_len]
   rw [cond_t (by rfl)]
   rw [cond_t (by simp;omega)]
   rw [ih (comp s (bs (t.extract 0 64))) (t.extract 64 t.size) m (comp_ok _ _) (by simp;omega) (by simp;omega),e1,e2]
   have e3:(t.extract 64 t.size).extract (64*j) (t.extract 64 t.size).size=t.extract (64*(j+1)) t.size:=by
    apply bs_inj
    rw [bs_extract,e2,bs_extract,List.take_of_length_le (by simp [bs_len]),List.take_of_length_le (by rw [bs_len];omega),List.drop_drop]
    congr 1
    omega
   rw [e3,comps]
 obtain ⟨m,hm⟩:∃ m,gas=m+t.size / 64+1:=⟨gas - (t.size / 64+1),by have:=gas_lt (n:=t.size / 64+1) (by omega);omega⟩
 rw [impl_blocks,E_impl_blocks,hm]
 exact key _ s t m hs rfl ht
theorem p_impl_stateText {r:Reg} (hr:r.ok):impl_stateText r.l=some (ofBytes (bytesL r.l)):=by
 have hl:r.l.length=8:=rfl
 have hrl:=Reg.l_r hr
 have hby:∀ i,Byt (bytesL (r.l.take i)):=fun i=>bytesL_byt (fun x hx=>hrl x (List.mem_of_mem_take hx))
 have key:=loopN (A:=Unit) (n:=8) (Lp:=L_impl_stateText) (st:=fun i _=>.c0 (ofBytes (bytesL (r.l.take i))) r.l (i:Int)) (Inv:=fun _ _=>True) (out:=fun _ _=>some (ofBytes (bytesL r.l)))
  (fun m _ _=>by
   rw [L_impl_stateText]
   simp only [B_impl_stateText]
   rw [cond_f (by simp)]
   rfl)
  (fun m i _ hi _=>.inr ⟨(),by
   have e:w64 ((i:Int)+1)=((i+1:Nat):Int):=by rw [w64_id (by omega) (by omega)];rfl
   have hg:r.l.getD i 0=r.l[i]'(by omega):=getD_at (by omega) 0
   have hx:R32 (r.l.getD i 0):=r_getD hrl i
   rw [L_impl_stateText]
   simp only [B_impl_stateText,e,Int.toNat_natCast,p_impl_fourBytes hx,Option.bind_some,hl]
   rw [cond_t (by simp;omega),cond_t (by rfl),cond_t (by simp;omega),cond_t (by rw [ofBytes_size,ofBytes_size,bytesL_len];simp [four];omega)]
   congr 2
   apply bs_inj
   rw [bs_append,bs_ofBytes (hby i),bs_ofBytes (hby (i+1)),bs_ofBytes (four_byt hx),take_at (by omega),bytesL_app,hg]
   simp [bytesL],trivial,rfl⟩)
 rw [impl_stateText,E_impl_stateText,hl,cond_t (by rfl)]
 exact key gas 0 () (Nat.zero_le _) (gas_lt (by omega)) trivial
theorem first_e:impl_firstState=some reg0.l:=rfl
theorem p_impl_DigestOf {s:ByteArray} (hs:s.size≤1000000000):impl_DigestOf s=some (dig s):=by
 have h1:=endL_len s.size
 have hsz:(s++ofBytes (endL s.size)).size=s.size+(endL s.size).length:=by rw [ByteArray.size_append,ofBytes_size]
 rw [impl_DigestOf,E_impl_DigestOf,first_e,Option.bind_some,p_impl_ending (n:=s.size) (by omega),Option.bind_some,cond_t (by rw [ofBytes_size];simp;omega),p_impl_blocks reg0_ok (by omega),Option.bind_some]
 simp only [Reg.l_len]
 rw [cond_t (by rfl),cond_t (by rfl),p_impl_stateText (comps_ok reg0_ok _ _),Option.bind_some,hsz,bs_append,bs_ofBytes (endL_byt _),dig,digL,bs_len]
def bookNew:SBook:=⟨dig ⟨#[]⟩,0,[],0,ofBytes (List.replicate 32 0),0⟩
theorem p_impl_BookNew:impl_BookNew=some bookNew:=by
 rw [impl_BookNew,E_impl_BookNew,p_impl_DigestOf (by decide),Option.bind_some,show (32:Int)=((32:Nat):Int) from rfl,p_impl_zeros (by omega),Option.bind_some];rfl
def varL (n:Int):List Int:=if n > 127 then (128+n % 128)::varL (n / 128) else [w8 n]
termination_by n.toNat
decreasing_by omega
theorem varL_len:∀ (k:Nat) (n:Int),n<128 ^ k→(varL n).length≤max k 1:=by
 intro k
 induction k with
 | zero=>intro n h;rw [varL,if_neg (by omega)];simp
 | succ k ih=>
  intro n h
  rw [varL]
  split
  ·rename_i hn
   have h2:n / 128<128 ^ k:=by
    rw [Int.pow_succ] at h
    exact Int.ediv_lt_of_lt_mul (by omega) h
   have:=ih _ h2
   simp only [List.length_cons]
   by_cases hk:k=0
   ·subst hk;simp at h2;try omega
   ·omega
  ·simp;try omega
theorem varL_len10 {n:Int} (h:n≤9223372036854775807):(varL n).length≤10:=by
 have:=varL_len 10 n (by (have:(128:Int) ^ 10=1180591620717411303424:=by decide);omega)
 omega
theorem varL_pos (n:Int):1≤(varL n).length:=by rw [varL];split <;> simp
theorem varL_step {n:Int} (h:n > 127) (h2:n≤9223372036854775807):w64 (n.tdiv 128)=n / 128∧w8 (w64 (n.tmod 128+128))=128+n % 128∧w8 (w64 (128+n.tmod 128))=128+n % 128:=by
 have e1:n.tdiv 128=n / 128:=Int.tdiv_eq_ediv_of_nonneg (by omega)
 have e2:n.tmod 128=n % 128:=Int.tmod_eq_emod_of_nonneg (by omega)
 refine ⟨by rw [e1,w64_id (by omega) (by omega)],?_,?_⟩
 ·rw [e2,w64_id (by omega) (by omega),w8_id (by omega) (by omega)];omega
 ·rw [e2,w64_id (by omega) (by omega),w8_id (by omega) (by omega)]
theorem p_impl_varText {n:Int} (h:n≤9223372036854775807):impl_varText n=some (ofBytes (varL n)):=by
 have key:∀ (n:Int) (m:Nat) (out:List Int),n≤9223372036854775807→(varL n).length≤m→out.length+(varL n).length≤1000→L_impl_varText m (.c0 n out)=some (ofBytes (out++varL n)):=by
  intro n
  induction n using varL.induct with
  | case1 n hn ih=>
   intro m out h1 h2 h3
   rw [varL,if_pos hn] at h2 h3 ⊢
   simp only [List.length_cons] at h2 h3
   obtain ⟨m,rfl⟩:∃ k,m=k+1:=⟨m - 1,by omega⟩
   obtain ⟨e1,_,e2⟩:=varL_step hn h1
   simp only [L_impl_varText,B_impl_varText,e1,e2]
   rw [show decide (n > 127)=true from decide_eq_true hn,show decide ((out.length+1)*1≤140737488355328)=true from decide_eq_true (by omega)]
   simp only [cond_true]
   rw [ih m _ (by omega) (by omega) (by simp;omega)]
   simp
  | case2 n hn=>
   intro m out h1 h2 h3
   rw [varL,if_neg hn] at h2 h3 ⊢
   simp at h2 h3
   obtain ⟨m,rfl⟩:∃ k,m=k+1:=⟨m - 1,by omega⟩
   simp only [L_impl_varText,B_impl_varText]
   rw [show decide (n > 127)=false from decide_eq_false hn,show decide ((out.length+1)*1≤140737488355328)=true from decide_eq_true (by omega)]
   rfl
 have hl:=varL_len10 h
 exact key n gas [] h (Nat.le_of_lt (gas_lt (by omega))) (by simp;omega)
theorem p_impl_in (x a b:Int):impl_in x a b=some (inR x a b):=by
 show (bif decide (a≤x) then some (decide (x≤b)) else some false)=some (inR x a b)
 unfold inR;cases decide (a≤x) <;> rfl
def thingOk (x:SThing):Bool:=inR x.fId 1 1000 && inR x.fKind 1 3 && inR x.fNext 0 16 && ((x.fKind == 2) || ((x.fNext == 0) && !x.fSigns)) && ((x.fKind == 1) || !x.fWraps) && (bif x.fKind == 3 then decide ((x.fValue.size:Int)≤100) else (x.fValue.size:Int) == 32)
theorem thingOk_kind {x:SThing} (h:thingOk x=true):1≤x.fKind∧x.fKind≤3∧1≤x.fId∧x.fId≤1000∧0≤x.fNext∧x.fNext≤16∧x.fValue.size≤100:=by
 unfold thingOk at h
 simp only [Bool.and_eq_true] at h
 obtain ⟨⟨⟨⟨⟨h1,h2⟩,h3⟩,_⟩,_⟩,h4⟩:=h
 rw [inR_iff] at h1 h2 h3
 refine ⟨h2.1,h2.2,h1.1,h1.2,h3.1,h3.2,?_⟩
 cases hk:x.fKind == 3
 ·rw [hk] at h4;simp at h4;omega
 ·rw [hk] at h4;simp at h4;omega
theorem p_impl_ThingOk (x:SThing):impl_ThingOk x=some (thingOk x):=by
 simp only [impl_ThingOk,E_impl_ThingOk,p_impl_in,Option.bind_some,thingOk,bne]
 by_cases k1:x.fKind=1
 ·rw [k1]
  cases inR x.fId 1 1000 <;> cases inR x.fNext 0 16 <;> cases (x.fNext == 0) <;> cases x.fSigns <;> cases x.fWraps <;> simp [inR]
 ·by_cases k2:x.fKind=2
  ·rw [k2]
   cases inR x.fId 1 1000 <;> cases inR x.fNext 0 16 <;> cases (x.fNext == 0) <;> cases x.fSigns <;> cases x.fWraps <;> simp [inR]
  ·by_cases k3:x.fKind=3
   ·rw [k3]
    cases inR x.fId 1 1000 <;> cases inR x.fNext 0 16 <;> cases (x.fNext == 0) <;> cases x.fSigns <;> cases x.fWraps <;> simp [inR]
   ·have hr:inR x.fKind 1 3=false:=by
     cases h:inR x.fKind 1 3
     ·rfl
     ·rw [inR_iff] at h;omega
    have e1:(x.fKind == 1)=false:=by simpa using k1
    have e2:(x.fKind == 2)=false:=by simpa using k2
    have e3:(x.fKind == 3)=false:=by simpa using k3
    rw [hr,e1,e2,e3]
    cases inR x.fId 1 1000 <;> cases inR x.fNext 0 16 <;> cases (x.fNext == 0) <;> cases x.fSigns <;> cases x.fWraps <;> rfl
theorem p_impl_oneByte {n:Int} (h:0≤n) (h2:n≤255):impl_oneByte n=some (ofBytes [n]):=by
 simp only [impl_oneByte,E_impl_oneByte,w8_id h h2]
def flagN (x:SThing):Int:=(bif x.fHidden then 1 else 0)+(bif x.fFixed then 2 else 0)+(bif x.fSigns then 4 else 0)+(bif x.fWraps then 8 else 0)
theorem flagN_lt (x:SThing):0≤flagN x∧flagN x≤15:=by
 unfold flagN;cases x.fHidden <;> cases x.fFixed <;> cases x.fSigns <;> cases x.fWraps <;> decide
theorem flags5 (m:Nat) (a b c d:Bool):L_impl_flags (m+5) (.c0 0 4 0 [a,b,c,d])=some ((bif a then 1 else 0)+(bif b then 2 else 0)+(bif c then 4 else 0)+(bif d then 8 else 0)):=by
 cases a <;> cases b <;> cases c <;> cases d <;> kernel_rfl
theorem p_impl_flags (x:SThing):impl_flags x=some (flagN x):=by
 obtain ⟨m,this⟩:∃ m,gas=m+5:=⟨gas - 5,rfl⟩
 unfold impl_flags E_impl_flags
 rw [this]
 exact flags5 _ _ _ _ _
def shortT (s:ByteArray):ByteArray:=ofBytes (varL (s.size:Int))++s
theorem shortT_size {s:ByteArray} (h:s.size≤140737488351232):(shortT s).size≤s.size+10:=by
 unfold shortT;rw [ba_append_size,ofBytes_size];have:=varL_len10 (n:=(s.size:Int)) (by omega);omega
theorem p_impl_shortText {s:ByteArray} (h:s.size≤140737488351232):impl_shortText s=some (shortT s):=by
 simp only [impl_shortText,E_impl_shortText,p_impl_varText (n:=(s.size:Int)) (by omega),Option.bind_some]
 have:=varL_len10 (n:=(s.size:Int)) (by omega)
 rw [show decide ((ofBytes (varL (s.size:Int))).size+s.size≤9223372036854775807)=true from decide_eq_true (by rw [ofBytes_size];omega)]
 rfl
def thingT (x:SThing):ByteArray:=ofBytes (varL x.fId)++ofBytes [x.fKind]++ofBytes [flagN x]++shortT x.fValue++ofBytes (varL x.fNext)
def thingText (x:SThing):ByteArray×Bool:=bif thingOk x then (thingT x,true) else (⟨#[]⟩,false)
theorem thing_sizes {x:SThing} (h:thingOk x=true):(ofBytes (varL x.fId)).size≤10∧(shortT x.fValue).size≤110∧(ofBytes (varL x.fNext)).size≤10:=by
 obtain ⟨_,_,_,h1,_,h2,h3⟩:=thingOk_kind h
 rw [ofBytes_size,ofBytes_size]
 have:=varL_len10 (n:=x.fId) (by omega)
 have:=varL_len10 (n:=x.fNext) (by omega)
 have:=shortT_size (s:=x.fValue) (by omega)
 omega
theorem thingT_size {x:SThing} (h:thingOk x=true):(thingT x).size≤200:=by
 obtain ⟨h1,h2,h3⟩:=thing_sizes h
 unfold thingT
 simp only [ba_append_size]
 have e1:∀ n:Int,(ofBytes [n]).size=1:=fun n=>ofBytes_size _
 rw [e1,e1];omega
theorem p_impl_ThingText (x:SThing):impl_ThingText x=some (thingText x):=by
 simp only [impl_ThingText,E_impl_ThingText,p_impl_ThingOk,Option.bind_some,thingText]
 cases h:thingOk x
 ·rfl
 ·obtain ⟨k1,k2,k3,k4,k5,k6,k7⟩:=thingOk_kind h
  obtain ⟨z1,z2,z3⟩:=thing_sizes h
  have hf:=flagN_lt x
  have e1:∀ n:Int,(ofBytes [n]).size=1:=fun n=>ofBytes_size _
  simp only [p_impl_flags,Option.bind_some,p_impl_varText (n:=x.fId) (by omega),p_impl_oneByte (n:=x.fKind) (by omega) (by omega),p_impl_oneByte hf.1 (by omega),p_impl_shortText (s:=x.fValue) (by omega),p_impl_varText (n:=x.fNext) (by omega),ba_append_size,e1]
  simp only [Bool.not_true,cond_false,cond_true]
  rw [show decide ((ofBytes (varL x.fId)).size+1≤9223372036854775807)=true from decide_eq_true (by omega),show decide ((ofBytes (varL x.fId)).size+1+1≤9223372036854775807)=true from decide_eq_true (by omega),
   show decide ((ofBytes (varL x.fId)).size+1+1+(shortT x.fValue).size≤9223372036854775807)=true from decide_eq_true (by omega),show decide ((ofBytes (varL x.fId)).size+1+1+(shortT x.fValue).size+(ofBytes (varL x.fNext)).size≤9223372036854775807)=true from decide_eq_true (by omega)]
  rfl
def isZ (x:SThing):Bool:=(x.fId == 0) && ((x.fKind == 0) && ((x.fHidden == false) && ((x.fFixed == false) && ((x.fSigns == false) && ((x.fWraps == false) && (((ByteArray.toList x.fValue) == (ByteArray.toList (⟨#[]⟩:ByteArray))) && ((x.fNext == 0) && true)))))))
theorem isZ_e (x:SThing):((x.fId == 0) && ((x.fKind == 0) && ((x.fHidden == false) && ((x.fFixed == false) && ((x.fSigns == false) && ((x.fWraps == false) && (((ByteArray.toList x.fValue) == (ByteArray.toList (⟨#[]⟩:ByteArray))) && ((x.fNext == 0) && true))))))))=isZ x:=rfl
def isE (s:ByteArray):Bool:=(ByteArray.toList s) == (ByteArray.toList (⟨#[]⟩:ByteArray))
theorem isE_e (s:ByteArray):((ByteArray.toList s) == (ByteArray.toList (⟨#[]⟩:ByteArray)))=isE s:=rfl
def noT:ByteArray×Bool:=((⟨#[]⟩:ByteArray),false)
def recText (r:SRec):ByteArray×Bool:=
 bif r.fKind == 1 then (bif (r.fText.size:Int) == 32 && r.fNum == 0 && isZ r.fThing then (ofBytes [1]++r.fText,true) else noT)
 else bif r.fKind == 2 then (bif isE r.fText && isZ r.fThing && inR r.fNum 0 3 then (ofBytes [2]++ofBytes (varL r.fNum),true) else noT)
 else bif r.fKind == 3 then (bif (thingText r.fThing).2 && isE r.fText && r.fNum == 0 then (ofBytes [3]++(thingText r.fThing).1,true) else noT)
 else bif r.fKind == 4 then (bif isE r.fText && isZ r.fThing && inR r.fNum 1 1000 then (ofBytes [4]++ofBytes (varL r.fNum),true) else noT)
 else noT
theorem rec_var {n a b:Int} (hb:b≤1000) (h:inR n a b=true) (k:Int):(ofBytes [k]).size+(ofBytes (varL n)).size≤9223372036854775807:=by
 rw [inR_iff] at h
 have:=varL_len10 (n:=n) (by omega)
 rw [ofBytes_size,ofBytes_size];simp only [List.length_singleton];omega
theorem rec_thing {x:SThing} (h:(thingText x).2=true) (k:Int):(ofBytes [k]).size+(thingText x).1.size≤9223372036854775807:=by
 unfold thingText at h ⊢
 cases ho:thingOk x
 ·rw [ho] at h;cases h
 ·have:=thingT_size ho
  rw [ofBytes_size];simp only [List.length_singleton,cond_true];omega
theorem p_impl_RecText {r:SRec} (g:r.fNum≤9223372036854775807):impl_RecText r=some (recText r):=by
 simp only [impl_RecText,E_impl_RecText,p_impl_in,p_impl_ThingText,p_impl_varText g,Option.bind_some,isZ_e]
 simp only [isE_e,recText]
 cases k1:r.fKind == 1
 ·simp only [cond_false]
  cases k2:r.fKind == 2
  ·simp only [cond_false]
   cases k3:r.fKind == 3
   ·simp only [cond_false]
    cases k4:r.fKind == 4
    ·rfl
    ·have k:r.fKind=4:=by simpa using k4
     rw [k]
     simp only [beq_self_eq_true,p_impl_oneByte (n:=4) (by omega) (by omega),Option.bind_some,Bool.true_and,cond_true]
     cases h:inR r.fNum 1 1000
     ·cases isE r.fText <;> cases isZ r.fThing <;> rfl
     ·cases isE r.fText <;> cases isZ r.fThing <;> (try rfl)
      simp only [Bool.not_true,cond_false,cond_true,Bool.and_self,decide_eq_true (rec_var (by omega) h 4)]
   ·have k:r.fKind=3:=by simpa using k3
    rw [k]
    simp only [beq_self_eq_true,p_impl_oneByte (n:=3) (by omega) (by omega),Option.bind_some,Bool.true_and,cond_true,Bool.and_true]
    cases h:(thingText r.fThing).2
    ·cases isE r.fText <;> cases r.fNum == 0 <;> rfl
    ·cases isE r.fText <;> cases r.fNum == 0 <;> (try rfl)
     simp only [Bool.not_true,cond_false,cond_true,Bool.and_self,decide_eq_true (rec_thing h 3)]
  ·have k:r.fKind=2:=by simpa using k2
   rw [k]
   simp only [beq_self_eq_true,p_impl_oneByte (n:=2) (by omega) (by omega),Option.bind_some,Bool.true_and,cond_true]
   cases h:inR r.fNum 0 3
   ·cases isE r.fText <;> cases isZ r.fThing <;> rfl
   ·cases isE r.fText <;> cases isZ r.fThing <;> (try rfl)
    simp only [Bool.not_true,cond_false,cond_true,Bool.and_self,decide_eq_true (rec_var (by omega) h 2)]
 ·have k:r.fKind=1:=by simpa using k1
  rw [k]
  simp only [beq_self_eq_true,p_impl_oneByte (n:=1) (by omega) (by omega),Option.bind_some,Bool.true_and,cond_true]
  cases h:(r.fText.size:Int) == 32 <;> cases r.fNum == 0 <;> cases isZ r.fThing <;> (try rfl)
  have h':r.fText.size=32:=by have:=beq_iff_eq.1 h;omega
  have e:(ofBytes [1]).size+r.fText.size≤9223372036854775807:=by rw [ofBytes_size];simp only [List.length_singleton];omega
  simp only [Bool.not_true,cond_false,cond_true,Bool.and_self,decide_eq_true e]
theorem p_impl_VarText {n:Int}:impl_VarText n=some (bif inR n 0 1000000000 then (ofBytes (varL n),true) else (⟨#[]⟩,false)):=by
 simp only [impl_VarText,E_impl_VarText,p_impl_in,Option.bind_some]
 cases h:inR n 0 1000000000
 ·rfl
 ·rw [inR_iff] at h
  rw [Bool.not_true,cond_false,p_impl_varText (by omega),Option.bind_some,cond_true]
def xb (x y:Int):Int:=w8 (((BitVec.toNat ((BitVec.ofInt (IntKind.bits IntKind.u8) x) ^^^ (BitVec.ofInt (IntKind.bits IntKind.u8) y))):Nat):Int)
theorem xb_e (x y:Int):w8 (((BitVec.toNat ((BitVec.ofInt (IntKind.bits IntKind.u8) x) ^^^ (BitVec.ofInt (IntKind.bits IntKind.u8) y))):Nat):Int)=xb x y:=rfl
theorem xb_byte (x y:Int):0≤xb x y∧xb x y≤255:=by unfold xb;rw [w8_mod];omega
theorem xb_xb {x:Int} (h:0≤x∧x≤255) (y:Int):xb (xb x y) y=x:=by
 have e:∀ (a b:BitVec 8),BitVec.ofInt 8 (((a ^^^ b).toNat:Nat):Int) ^^^ b=a:=by
  intro a b
  rw [BitVec.ofInt_natCast,BitVec.ofNat_toNat,BitVec.setWidth_eq,BitVec.xor_assoc,BitVec.xor_self,BitVec.xor_zero]
 have h8:∀ (a b:BitVec 8),w8 (((a ^^^ b).toNat:Nat):Int)=(((a ^^^ b).toNat:Nat):Int):=fun a b=>by
  have:=(a ^^^ b).isLt;rw [w8_id (by omega) (by omega)]
 unfold xb
 show w8 (((BitVec.ofInt 8 (w8 (((BitVec.ofInt 8 x ^^^ BitVec.ofInt 8 y).toNat:Nat):Int)) ^^^ BitVec.ofInt 8 y).toNat:Nat):Int)=x
 rw [h8 (BitVec.ofInt 8 x),e,BitVec.toNat_ofInt,w8_mod]
 omega
def xorB (x:Int) (l:List Int):List Int:=l.map fun b=>xb b x
theorem xorB_len (x:Int) (l:List Int):(xorB x l).length=l.length:=by simp [xorB]
theorem xorB_byt (x:Int) (l:List Int):Byt (xorB x l):=fun n hn=>by
 simp only [xorB,List.mem_map] at hn
 obtain ⟨b,_,rfl⟩:=hn
 exact xb_byte _ _
def keyL (k:List Int):List Int:=k++List.replicate (64 - k.length) 0
def key64 (k:List Int):List Int:=if 64<k.length then keyL (digL k) else keyL k
theorem key64_len (k:List Int):(key64 k).length=64:=by
 unfold key64 keyL
 split
 ·rw [List.length_append,List.length_replicate,digL_len]
 ·rw [List.length_append,List.length_replicate];omega
def macL (k s:List Int):List Int:=digL (xorB 92 (key64 k)++digL (xorB 54 (key64 k)++s))
def mac (k s:ByteArray):ByteArray:=ofBytes (macL (bs k) (bs s))
theorem macL_len (k s:List Int):(macL k s).length=32:=digL_len _
theorem macL_byt (k s:List Int):Byt (macL k s):=digL_byt _
theorem bs_mac (k s:ByteArray):bs (mac k s)=macL (bs k) (bs s):=bs_ofBytes (macL_byt _ _)
theorem mac_size (k s:ByteArray):(mac k s).size=32:=by rw [mac,ofBytes_size,macL_len]
theorem map_step {α:Type} (f:α→α) {l:List α} {i:Nat} (h:i<l.length):((l.take i).map f++l.drop i).set i (f l[i])=(l.take (i+1)).map f++l.drop (i+1):=by
 rw [drop_at h,set_app (by simp;omega),take_at h,List.map_append,List.append_assoc]
 rfl
theorem map_at {f:Int→Int} {l:List Int} {i:Nat} (h:i<l.length):((l.take i).map f++l.drop i).getD i 0=l[i]:=by
 rw [getD_app2 (by simp;omega)]
 simp [List.getD,Nat.min_eq_left (Nat.le_of_lt h),h]
theorem p_impl_xored {s:ByteArray} {x:Int} (hs:s.size≤140737488351232):impl_xored s x=some (ofBytes (xorB x (bs s))):=by
 have hl:=bs_len s
 have key:=loopN (A:=Unit) (n:=(bs s).length) (Lp:=L_impl_xored) (st:=fun i _=>.c0 x ((bs s).length:Int) (i:Int) (((bs s).take i).map (fun b=>xb b x)++(bs s).drop i)) (Inv:=fun _ _=>True) (out:=fun _ _=>some (ofBytes (xorB x (bs s))))
  (fun m _ _=>by
   rw [L_impl_xored]
   simp only [B_impl_xored]
   rw [cond_f (by simp),List.take_length,List.drop_length,List.append_nil];rfl)
  (fun m i _ hi _=>.inr ⟨(),by
   have e:w64 ((i:Int)+1)=((i+1:Nat):Int):=by rw [w64_id (by omega) (by omega)];rfl
   have hlen:(((bs s).take i).map (fun b=>xb b x)++(bs s).drop i).length=(bs s).length:=by simp;omega
   rw [L_impl_xored]
   simp only [B_impl_xored,e,Int.toNat_natCast,hlen,xb_e,map_at hi]
   rw [cond_t (by simp;omega),cond_t (by simp;omega),cond_t (by simp;omega),map_step (fun b=>xb b x) hi],trivial,rfl⟩)
 rw [impl_xored,E_impl_xored,cond_t (by simp;omega),bytesOf_bs]
 exact key gas 0 () (Nat.zero_le _) (gas_lt (by omega)) trivial
theorem keyL_byt {l:List Int} (h:Byt l):Byt (keyL l):=fun x hx=>by
 simp only [keyL,List.mem_append,List.mem_replicate] at hx
 rcases hx with hx | hx
 ·exact h x hx
 ·omega
theorem bs_pad {k:ByteArray} (h:k.size≤64):bs (k++ofBytes (List.replicate (64 - k.size) 0))=keyL (bs k):=by
 rw [bs_append,bs_ofBytes (fun x hx=>by have:=List.eq_of_mem_replicate hx;omega),keyL,bs_len]
theorem mac_fin {K:ByteArray} (h:K.size=64) {s:ByteArray}:dig (ofBytes (xorB 92 (bs K))++dig (ofBytes (xorB 54 (bs K))++s))=ofBytes (digL (xorB 92 (bs K)++digL (xorB 54 (bs K)++bs s))):=by
 rw [dig,bs_append,bs_dig,bs_append,bs_ofBytes (xorB_byt _ _),bs_ofBytes (xorB_byt _ _)]
theorem p_impl_MacOf {k s:ByteArray} (hk:k.size≤900000000) (hs:s.size≤900000000):impl_MacOf k s=some (mac k s):=by
 have fin:∀ {K:ByteArray} {m:Int},K.size≤64→m=((64 - K.size:Nat):Int)→∀ (f:Option ByteArray),f=some (ofBytes (digL (xorB 92 (keyL (bs K))++digL (xorB 54 (keyL (bs K))++bs s))))→
   ((impl_zeros m).bind fun r1=>bif decide (K.size+r1.size≤9223372036854775807) then (impl_xored (K++r1) 92).bind fun r2=>(impl_xored (K++r1) 54).bind fun r3=>bif decide (r3.size+s.size≤9223372036854775807) then (impl_DigestOf (r3++s)).bind fun r4=>bif decide (r2.size+r4.size≤9223372036854775807) then (impl_DigestOf (r2++r4)).bind fun r5=>some r5 else none else none else none)=f:=by
  intro K m hK hm f hf
  have h64:(K++ofBytes (List.replicate (64 - K.size) 0)).size=64:=by rw [ByteArray.size_append,ofBytes_size,List.length_replicate];omega
  subst hm
  have x1:=xorB_len 92 (keyL (bs K))
  have x2:=xorB_len 54 (keyL (bs K))
  have x3:(keyL (bs K)).length=64:=by rw [keyL,List.length_append,List.length_replicate,bs_len];omega
  have hb:=bs_pad hK
  have hf2:=mac_fin h64 (s:=s)
  rw [hb] at hf2
  rw [p_impl_zeros (by omega),Option.bind_some,cond_t (by rw [ofBytes_size,List.length_replicate,decide_eq_true_eq];omega),p_impl_xored (by omega),Option.bind_some,p_impl_xored (by omega),Option.bind_some,hb]
  rw [cond_t (by rw [ofBytes_size,decide_eq_true_eq];omega),p_impl_DigestOf (by rw [ByteArray.size_append,ofBytes_size];omega),Option.bind_some,cond_t (by rw [ofBytes_size,dig_size,decide_eq_true_eq];omega)]
  rw [p_impl_DigestOf (by rw [ByteArray.size_append,ofBytes_size,dig_size];omega),Option.bind_some,hf,hf2]
 rw [impl_MacOf,E_impl_MacOf]
 by_cases h:64<k.size
 ·rw [cond_t (by simp;omega),p_impl_DigestOf (by omega),Option.bind_some]
  apply fin (by rw [dig_size];omega) (by rw [dig_size];decide)
  rw [mac,macL,key64,if_pos (by rw [bs_len];omega),bs_dig]
 ·rw [cond_f (by simp;omega)]
  apply fin (by omega) (by rw [w64_id (by omega) (by omega)];omega)
  rw [mac,macL,key64,if_neg (by rw [bs_len];omega)]
def maskM (k v:List Int):Nat→List Int
 | 0=>[]
 | i+1=>maskM k v i++macL k (109::(v++[(i:Int)]))
theorem maskM_len (k v:List Int) (i:Nat):(maskM k v i).length=32*i:=by
 induction i with
 | zero=>rfl
 | succ i ih=>rw [maskM,List.length_append,ih,macL_len];omega
theorem maskM_byt (k v:List Int) (i:Nat):Byt (maskM k v i):=by
 induction i with
 | zero=>intro n hn;cases hn
 | succ i ih=>
  intro n hn
  rcases List.mem_append.1 hn with hn | hn
  ·exact ih n hn
  ·exact macL_byt _ _ n hn
def maskL (k v:List Int) (n:Nat):List Int:=(maskM k v ((n+31) / 32)).take n
theorem maskL_len (k v:List Int) (n:Nat):(maskL k v n).length=n:=by rw [maskL,List.length_take,maskM_len];omega
theorem maskL_byt (k v:List Int) (n:Nat):Byt (maskL k v n):=fun x hx=>maskM_byt _ _ _ x (List.mem_of_mem_take hx)
def maskOk (num:Int) (n:Int):Bool:=inR num 0 1000000000 && inR n 0 8000
def maskT (k:ByteArray) (num:Int) (n:Int):ByteArray×Bool:=bif maskOk num n then (ofBytes (maskL (bs k) (varL num) n.toNat),true) else (⟨#[]⟩,false)
theorem varL_byt:∀ {n:Int},0≤n→Byt (varL n):=by
 intro n
 induction n using varL.induct with
 | case1 n hn ih=>
  intro h x hx
  rw [varL,if_pos hn] at hx
  rcases List.mem_cons.1 hx with rfl | hx
  ·omega
  ·exact ih (by omega) x hx
 | case2 n hn=>
  intro h x hx
  rw [varL,if_neg hn] at hx
  rw [List.mem_singleton] at hx
  subst hx
  rw [w8_mod];omega
theorem mask_in (k:ByteArray) {num:Int} (hn:0≤num) (hn2:num≤1000000000) (i:Nat) (hi:i≤255) :
  mac k (((⟨#[109]⟩:ByteArray)++ofBytes (varL num))++ofBytes [(i:Int)])=ofBytes (macL (bs k) (109::(varL num++[(i:Int)]))):=by
 have e:bs (⟨#[109]⟩:ByteArray)=[109]:=rfl
 rw [mac,bs_append,bs_append,bs_ofBytes (varL_byt hn),e,bs_ofBytes (fun x hx=>by rw [List.mem_singleton] at hx;omega)]
 rfl
def xorL (a b:List Int):List Int:=List.zipWith xb a b
theorem xorL_len {a b:List Int} (h:a.length≤b.length):(xorL a b).length=a.length:=by rw [xorL,List.length_zipWith];omega
theorem xorL_byt (a b:List Int):Byt (xorL a b):=by
 intro n hn
 rw [xorL,List.mem_iff_getElem] at hn
 obtain ⟨i,hi,rfl⟩:=hn
 rw [List.getElem_zipWith]
 exact xb_byte _ _
theorem zip_take {α:Type} (f:α→α→α):∀ (a b:List α),List.zipWith f a (b.take a.length)=List.zipWith f a b
 | [],_=>rfl
 | _::_,[]=>rfl
 | x::a,y::b=>by rw [List.length_cons,List.take_succ_cons,List.zipWith_cons_cons,List.zipWith_cons_cons,zip_take f a b]
theorem xor_step {a b:List Int} {i:Nat} (h:i<a.length) (h2:i<b.length):(List.zipWith xb (a.take i) (b.take i)++a.drop i).set i (xb a[i] (b.getD i 0))=List.zipWith xb (a.take (i+1)) (b.take (i+1))++a.drop (i+1):=by
 rw [drop_at h,set_app (by simp;omega),take_at h,take_at h2,getD_at h2,List.zipWith_append (by simp;omega),List.append_assoc]
 rfl
theorem xor_at {a b:List Int} {i:Nat} (h:i<a.length) (h2:i<b.length):(List.zipWith xb (a.take i) (b.take i)++a.drop i).getD i 0=a[i]:=by
 rw [getD_app2 (by simp;omega)]
 simp [List.getD,Nat.min_eq_left (Nat.le_of_lt h),Nat.min_eq_left (Nat.le_of_lt h2),h]
def tagL (k:List Int) (num:Int) (s:List Int):List Int:=(macL k (116::(varL num++s))).take 16
theorem tagL_len (k:List Int) (num:Int) (s:List Int):(tagL k num s).length=16:=by rw [tagL,List.length_take,macL_len];rfl
theorem tagL_byt (k:List Int) (num:Int) (s:List Int):Byt (tagL k num s):=fun x hx=>macL_byt _ _ x (List.mem_of_mem_take hx)
def sealL (k:List Int) (num:Int) (s:List Int):List Int:=xorL s (maskL k (varL num) s.length)++tagL k num (xorL s (maskL k (varL num) s.length))
def lockT (k:ByteArray) (num:Int) (s:ByteArray):ByteArray×Bool:=bif maskOk num s.size then (ofBytes (sealL (bs k) num (bs s)),true) else (⟨#[]⟩,false)
def openT (k:ByteArray) (num:Int) (t:ByteArray):ByteArray×Bool:=
 bif decide ((t.size:Int)<16) || !(maskOk num ((t.size:Int) - 16)) then (⟨#[]⟩,false)
 else bif tagL (bs k) num ((bs t).take (t.size - 16)) == (bs t).drop (t.size - 16) then (ofBytes (xorL ((bs t).take (t.size - 16)) (maskL (bs k) (varL num) (t.size - 16))),true)
 else (⟨#[]⟩,false)
theorem maskOk_iff {num n:Int}:maskOk num n=true↔(0≤num∧num≤1000000000)∧0≤n∧n≤8000:=by rw [maskOk,Bool.and_eq_true,inR_iff,inR_iff]
theorem p_impl_Mask {k:ByteArray} {num n:Int} (hk:k.size≤900000000):impl_Mask k num n=some (maskT k num n):=by
 rw [impl_Mask,E_impl_Mask,p_impl_VarText,Option.bind_some,maskT,maskOk]
 cases h:inR num 0 1000000000
 ·rfl
 ·rw [inR_iff] at h
  rw [cond_true,cond_f (by rfl),p_impl_in,Option.bind_some]
  cases h2:inR n 0 8000
  ·rfl
  ·rw [inR_iff] at h2
   rw [cond_f (by rfl),Bool.and_self,cond_true]
   have hv:=varL_len10 (n:=num) (by omega)
   have hvb:=varL_byt h.1
   have key:=loopN (A:=Unit) (n:=(n.toNat+31) / 32) (Lp:=L_impl_Mask) (st:=fun i _=>.c0 k n (ofBytes (varL num)) (ofBytes (maskM (bs k) (varL num) i)) (i:Int)) (Inv:=fun _ _=>True) (out:=fun _ _=>some (ofBytes (maskL (bs k) (varL num) n.toNat),true))
    (fun m _ _=>by
     rw [L_impl_Mask]
     simp only [B_impl_Mask]
     rw [cond_f (by rw [ofBytes_size,maskM_len,decide_eq_false_iff_not];omega),cond_t (by rw [ofBytes_size,maskM_len];simp;omega)]
     refine congrArg (fun x=>some (x,true)) (bs_inj ?_)
     rw [bs_extract,bs_ofBytes (maskM_byt _ _ _),bs_ofBytes (maskL_byt _ _ _),maskL,List.drop_zero])
    (fun m i _ hi _=>.inr ⟨(),by
     have e:w64 ((i:Int)+1)=((i+1:Nat):Int):=by rw [w64_id (by omega) (by omega)];rfl
     have h9:(⟨#[109]⟩:ByteArray).size=1:=rfl
     rw [L_impl_Mask]
     simp only [B_impl_Mask,e]
     rw [cond_t (by rw [ofBytes_size,maskM_len,decide_eq_true_eq];omega),cond_t (by rw [ofBytes_size,h9,decide_eq_true_eq];omega),p_impl_oneByte (by omega) (by omega),Option.bind_some,cond_t (by rw [ByteArray.size_append,ofBytes_size,ofBytes_size,h9,decide_eq_true_eq,List.length_singleton];omega)]
     rw [p_impl_MacOf hk (by rw [ByteArray.size_append,ByteArray.size_append,ofBytes_size,ofBytes_size,h9,List.length_singleton];omega),Option.bind_some,mask_in k h.1 h.2 i (by omega),cond_t (by rw [ofBytes_size,ofBytes_size,maskM_len,macL_len,decide_eq_true_eq];omega)]
     rw [show ofBytes (maskM (bs k) (varL num) i)++ofBytes (macL (bs k) (109::(varL num++[(i:Int)])))=ofBytes (maskM (bs k) (varL num) (i+1)) from bs_inj (by
      rw [bs_append,bs_ofBytes (maskM_byt _ _ _),bs_ofBytes (maskM_byt _ _ _),bs_ofBytes (macL_byt _ _),maskM])],trivial,rfl⟩)
   exact key gas 0 () (Nat.zero_le _) (gas_lt (by omega)) trivial
theorem p_impl_both {a b:ByteArray} (ha:a.size≤140737488351232) (h:a.size≤b.size):impl_both a b=some (ofBytes (xorL (bs a) (bs b))):=by
 have hl:=bs_len a
 have hl2:=bs_len b
 have key:=loopN (A:=Unit) (n:=(bs a).length) (Lp:=L_impl_both) (st:=fun i _=>.c0 b ((bs a).length:Int) (i:Int) (List.zipWith xb ((bs a).take i) ((bs b).take i)++(bs a).drop i)) (Inv:=fun _ _=>True) (out:=fun _ _=>some (ofBytes (xorL (bs a) (bs b))))
  (fun m _ _=>by
   rw [L_impl_both]
   simp only [B_impl_both]
   rw [cond_f (by simp),List.take_length,List.drop_length,List.append_nil,xorL,zip_take])
  (fun m i _ hi _=>.inr ⟨(),by
   have e:w64 ((i:Int)+1)=((i+1:Nat):Int):=by rw [w64_id (by omega) (by omega)];rfl
   have hlen:(List.zipWith xb ((bs a).take i) ((bs b).take i)++(bs a).drop i).length=(bs a).length:=by simp;omega
   rw [L_impl_both]
   simp only [B_impl_both,e,Int.toNat_natCast,hlen,xb_e,xor_at hi (show i<(bs b).length by omega)]
   rw [cond_t (by simp;omega),cond_t (by simp;omega),cond_t (by simp;omega),cond_t (by simp;omega),bt_getD (by omega),xor_step hi (by omega)],trivial,rfl⟩)
 rw [impl_both,E_impl_both,cond_t (by simp;omega),bytesOf_bs]
 exact key gas 0 () (Nat.zero_le _) (gas_lt (by omega)) trivial
theorem p_impl_tag {k s:ByteArray} {num:Int} (hk:k.size≤900000000) (hn:0≤num∧num≤1000000000) (hs:s.size≤800000000):impl_tag k num s=some (ofBytes (tagL (bs k) num (bs s))):=by
 have hv:=varL_len10 (n:=num) (by omega)
 have h9:(⟨#[116]⟩:ByteArray).size=1:=rfl
 have e:bs (⟨#[116]⟩:ByteArray)=[116]:=rfl
 have h16:(16:Int).toNat=16:=rfl
 rw [impl_tag,E_impl_tag,p_impl_varText (by omega),Option.bind_some,cond_t (by rw [ofBytes_size,h9,decide_eq_true_eq];omega),cond_t (by rw [ByteArray.size_append,ofBytes_size,h9,decide_eq_true_eq];omega)]
 rw [p_impl_MacOf hk (by rw [ByteArray.size_append,ByteArray.size_append,ofBytes_size,h9];omega),Option.bind_some,cond_t (by rw [mac_size];decide)]
 refine congrArg some (bs_inj ?_)
 rw [bs_extract,bs_mac,h16,bs_ofBytes (tagL_byt _ _ _),bs_append,bs_append,e,bs_ofBytes (varL_byt hn.1),tagL,List.drop_zero,List.append_assoc]
 rfl
theorem p_impl_LockText {k s:ByteArray} {num:Int} (hk:k.size≤900000000) (hs:s.size≤800000000):impl_LockText k num s=some (lockT k num s):=by
 rw [impl_LockText,E_impl_LockText,p_impl_Mask hk,Option.bind_some,maskT,lockT]
 cases h:maskOk num s.size
 ·rfl
 ·have h':=maskOk_iff.1 h
  have hm:=maskL_len (bs k) (varL num) ((s.size:Int).toNat)
  have hl:=bs_len s
  rw [cond_true,cond_true,cond_f (by rfl),p_impl_both (by omega) (by rw [ofBytes_size,hm];omega),Option.bind_some,bs_ofBytes (maskL_byt _ _ _)]
  have hx:(xorL (bs s) (maskL (bs k) (varL num) (s.size:Int).toNat)).length=s.size:=by rw [xorL_len (by omega),hl]
  rw [p_impl_tag hk h'.1 (by rw [ofBytes_size,hx];omega),Option.bind_some,bs_ofBytes (xorL_byt _ _),cond_t (by rw [ofBytes_size,ofBytes_size,hx,tagL_len,decide_eq_true_eq];omega)]
  refine congrArg (fun x=>some (x,true)) (bs_inj ?_)
  rw [bs_append,bs_ofBytes (xorL_byt _ _),bs_ofBytes (tagL_byt _ _ _),bs_ofBytes (fun x hx=>by
   rcases List.mem_append.1 hx with hx | hx
   ·exact xorL_byt _ _ x hx
   ·exact tagL_byt _ _ _ x hx),sealL,hl]
  rfl
def crc1 (s:Int):Int:=if s % 2=1 then xr (s / 2) 3558460437 else s / 2
def crcN:Nat→Int→Int
 | 0,s=>s
 | n+1,s=>crcN n (crc1 s)
def crcL (s:Int) (l:List Int):Int:=l.foldl (fun s b=>crcN 8 (xr s b)) s
theorem r32_crc1 {s:Int} (h:R32 s):R32 (crc1 s):=by
 unfold crc1;split
 ·exact r32_xr _ _
 ·unfold R32 at *;omega
theorem r32_crcN:∀ (n:Nat) {s:Int},R32 s→R32 (crcN n s)
 | 0,_,h=>h
 | n+1,_,h=>r32_crcN n (r32_crc1 h)
theorem r32_crcL:∀ (l:List Int) {s:Int},R32 s→R32 (crcL s l)
 | [],_,h=>h
 | b::l,s,_=>r32_crcL l (r32_crcN 8 (r32_xr s b))
def sumL (l:List Int):Int:=crcL 4294967295 l
theorem sumL_r (l:List Int):R32 (sumL l):=r32_crcL l (by unfold R32;omega)
theorem an_one {s:Int} (h:R32 s):an s 1=s % 2:=by
 obtain ⟨h1,h2⟩:=h
 obtain ⟨n,rfl⟩:∃ n:Nat,s=(n:Int):=⟨s.toNat,by omega⟩
 unfold an
 show w32 (((BitVec.ofInt 32 (n:Int) &&& BitVec.ofInt 32 1).toNat:Nat):Int)=_
 rw [BitVec.ofInt_natCast,show BitVec.ofInt 32 1=BitVec.ofNat 32 1 from rfl,BitVec.toNat_and,BitVec.toNat_ofNat,BitVec.toNat_ofNat,Nat.mod_eq_of_lt (by omega:n<2 ^ 32),show 1 % 2 ^ 32=1 from rfl,Nat.and_one_is_mod,w32_id (by omega) (by omega)]
 omega
theorem sumI_in (t:ByteArray) (i:Nat) (hi:i<t.size) (ht:t.size≤140737488351232):∀ (j k m:Nat) (s:Int),k+j=8→R32 s→L_impl_SumMore (m+j+1) (.c1 s t (i:Int) (k:Int))=L_impl_SumMore m (.c0 (crcN j s) t ((i+1:Nat):Int)):=by
 intro j
 induction j with
 | zero=>
  intro k m s hk hs
  have e:w64 ((i:Int)+1)=((i+1:Nat):Int):=by rw [w64_id (by omega) (by omega)];rfl
  rw [L_impl_SumMore]
  simp only [B_impl_SumMore,e]
  rw [cond_f (by simp;omega)]
  rfl
 | succ j ih=>
  intro k m s hk hs
  have e:w64 ((k:Int)+1)=((k+1:Nat):Int):=by rw [w64_id (by omega) (by omega)];rfl
  have h2:Int.fdiv s (2 ^ (Min.min (1:Int).toNat (IntKind.bits IntKind.u32)))=s / 2:=Int.fdiv_eq_ediv_of_nonneg _ (by decide)
  rw [show m+(j+1)+1=(m+j+1)+1 by omega,L_impl_SumMore]
  simp only [B_impl_SumMore,e,h2,an_e,an_one hs,xr_e]
  rw [cond_t (by simp;omega),crcN]
  by_cases h:s % 2=1
  ·rw [cond_t (by simp [h]),ih (k+1) m _ (by omega) (r32_xr _ _),crc1,if_pos h]
  ·rw [cond_f (by simp [h]),ih (k+1) m _ (by omega) (by unfold R32 at *;omega),crc1,if_neg h]
theorem p_impl_SumMore {t:ByteArray} {s:Int} (ht:t.size≤140737488351232):impl_SumMore s t=some (crcL s (bs t)):=by
 have hl:=bs_len t
 have key:∀ (j i m:Nat) (s:Int),i+j=t.size→L_impl_SumMore (m+10*j+1) (.c0 s t (i:Int))=some (crcL s ((bs t).drop i)):=by
  intro j
  induction j with
  | zero=>
   intro i m s h
   rw [L_impl_SumMore]
   simp only [B_impl_SumMore]
   rw [cond_f (by simp;omega),List.drop_of_length_le (by omega)];rfl
  | succ j ih=>
   intro i m s h
   have hb:=byt_getD (byt_bs t) i
   rw [show m+10*(j+1)+1=(m+10*j+1)+8+1+1 by omega,L_impl_SumMore]
   simp only [B_impl_SumMore,xr_e]
   rw [cond_t (by simp;omega),cond_t (by simp;omega),bt_getD (by omega),w32_id (by omega) (by omega)]
   have h1:=sumI_in t i (by omega) ht 8 0 (m+10*j+1) (xr s ((bs t).getD i 0)) (by omega) (r32_xr _ _)
   rw [show ((0:Nat):Int)=0 from rfl] at h1
   rw [h1,ih (i+1) m _ (by omega),drop_at (by omega:i<(bs t).length),getD_at (by omega)]
   rfl
 obtain ⟨m,hm⟩:∃ m,gas=m+10*t.size+1:=⟨gas - (10*t.size+1),by have:=gas_lt (n:=10*t.size+1) (by omega);omega⟩
 rw [impl_SumMore,E_impl_SumMore,hm]
 have:=key t.size 0 m s (by omega)
 rw [List.drop_zero] at this
 exact this
theorem p_impl_SumOf {t:ByteArray} (ht:t.size≤140737488351232):impl_SumOf t=some (sumL (bs t)):=by
 rw [impl_SumOf,E_impl_SumOf,p_impl_SumMore ht];rfl
theorem tl_bs (a b:ByteArray):(a.toList == b.toList)=(bs a == bs b):=by
 rw [toList_inj,Bool.eq_iff_iff,decide_eq_true_eq,beq_iff_eq]
 exact ⟨fun h=>by rw [h],bs_inj⟩
def frameL (l:List Int):List Int:=varL (l.length:Int)++(four (sumL l)++l)
def frameT (t:ByteArray):ByteArray×Bool:=bif inR (t.size:Int) 1 9000 then (ofBytes (frameL (bs t)),true) else (⟨#[]⟩,false)
theorem frameL_byt {l:List Int} (h:Byt l):Byt (frameL l):=by
 intro x hx
 rcases List.mem_append.1 hx with hx | hx
 ·exact varL_byt (by omega) x hx
 ·rcases List.mem_append.1 hx with hx | hx
  ·exact four_byt (sumL_r l) x hx
  ·exact h x hx
theorem frame_cat (t:ByteArray):(ofBytes (varL (t.size:Int))++ofBytes (four (sumL (bs t))))++t=ofBytes (frameL (bs t)):=by
 apply bs_inj
 rw [bs_append,bs_append,bs_ofBytes (varL_byt (by omega)),bs_ofBytes (four_byt (sumL_r _)),bs_ofBytes (frameL_byt (byt_bs t)),frameL,bs_len,List.append_assoc]
theorem frameT_size {t:ByteArray} (h:t.size≤140737488351232):(frameT t).1.size≤t.size+14:=by
 rw [frameT]
 cases inR (t.size:Int) 1 9000
 ·exact Nat.zero_le _
 ·rw [cond_true,ofBytes_size,frameL,List.length_append,List.length_append,bs_len]
  have:(four (sumL (bs t))).length=4:=rfl
  have:=varL_len10 (n:=(t.size:Int)) (by omega)
  omega
theorem p_impl_Frame {t:ByteArray} (h:t.size≤140737488351232):impl_Frame t=some (frameT t):=by
 rw [impl_Frame,E_impl_Frame,p_impl_in,Option.bind_some,frameT]
 cases h1:inR (t.size:Int) 1 9000
 ·rfl
 ·rw [inR_iff] at h1
  have:=varL_len10 (n:=(t.size:Int)) (by omega)
  rw [cond_f (by rfl),p_impl_varText (by omega),Option.bind_some,p_impl_SumOf h,Option.bind_some,p_impl_fourBytes (sumL_r _),Option.bind_some,cond_t (by rw [ofBytes_size,ofBytes_size,decide_eq_true_eq];have:(four (sumL (bs t))).length=4:=rfl;omega)]
  rw [cond_t (by rw [ByteArray.size_append,ofBytes_size,ofBytes_size,decide_eq_true_eq];have:(four (sumL (bs t))).length=4:=rfl;omega),frame_cat,cond_true]
theorem recText_cases {r:SRec} (h:(recText r).2=true):(r.fKind=1∧r.fText.size=32)∨(r.fKind=2∧0≤r.fNum∧r.fNum≤3)∨(r.fKind=3∧thingOk r.fThing=true)∨(r.fKind=4∧1≤r.fNum∧r.fNum≤1000):=by
 rw [recText] at h
 by_cases h1:r.fKind=1
 ·rw [show (r.fKind == 1)=true by rw [beq_iff_eq];exact h1,cond_true] at h
  cases hc:((r.fText.size:Int) == 32 && r.fNum == 0 && isZ r.fThing)
  ·rw [hc] at h;cases h
  ·rw [Bool.and_eq_true,Bool.and_eq_true,beq_iff_eq] at hc
   exact .inl ⟨h1,by omega⟩
 rw [show (r.fKind == 1)=false by rw [beq_eq_false_iff_ne];exact h1,cond_false] at h
 by_cases h2:r.fKind=2
 ·rw [show (r.fKind == 2)=true by rw [beq_iff_eq];exact h2,cond_true] at h
  cases hc:(isE r.fText && isZ r.fThing && inR r.fNum 0 3)
  ·rw [hc] at h;cases h
  ·rw [Bool.and_eq_true,inR_iff] at hc
   exact .inr (.inl ⟨h2,hc.2⟩)
 rw [show (r.fKind == 2)=false by rw [beq_eq_false_iff_ne];exact h2,cond_false] at h
 by_cases h3:r.fKind=3
 ·rw [show (r.fKind == 3)=true by rw [beq_iff_eq];exact h3,cond_true] at h
  cases hc:((thingText r.fThing).2 && isE r.fText && r.fNum == 0)
  ·rw [hc] at h;cases h
  ·rw [Bool.and_eq_true,Bool.and_eq_true] at hc
   refine .inr (.inr (.inl ⟨h3,?_⟩))
   have h4:=hc.1.1
   rw [thingText] at h4
   cases ho:thingOk r.fThing
   ·rw [ho] at h4;cases h4
   ·rfl
 rw [show (r.fKind == 3)=false by rw [beq_eq_false_iff_ne];exact h3,cond_false] at h
 by_cases h4:r.fKind=4
 ·rw [show (r.fKind == 4)=true by rw [beq_iff_eq];exact h4,cond_true] at h
  cases hc:(isE r.fText && isZ r.fThing && inR r.fNum 1 1000)
  ·rw [hc] at h;cases h
  ·rw [Bool.and_eq_true,inR_iff] at hc
   exact .inr (.inr (.inr ⟨h4,hc.2⟩))
 rw [show (r.fKind == 4)=false by rw [beq_eq_false_iff_ne];exact h4] at h
 cases h
theorem recText_size (r:SRec):(recText r).1.size≤300:=by
 rw [recText]
 have one:∀ n:Int,(ofBytes [n]).size=1:=fun n=>by rw [ofBytes_size];rfl
 cases hk1:(r.fKind == 1)
 ·rw [cond_false]
  cases hk2:(r.fKind == 2)
  ·rw [cond_false]
   cases hk3:(r.fKind == 3)
   ·rw [cond_false]
    cases hk4:(r.fKind == 4)
    ·exact Nat.zero_le _
    ·rw [cond_true]
     cases hc:(isE r.fText && isZ r.fThing && inR r.fNum 1 1000)
     ·exact Nat.zero_le _
     ·rw [Bool.and_eq_true,inR_iff] at hc
      have:=varL_len10 (n:=r.fNum) (by omega)
      rw [cond_true,ByteArray.size_append,one,ofBytes_size];omega
   ·rw [cond_true]
    cases hc:((thingText r.fThing).2 && isE r.fText && r.fNum == 0)
    ·exact Nat.zero_le _
    ·rw [cond_true,ByteArray.size_append,one,thingText]
     cases ho:thingOk r.fThing
     ·exact Nat.le_of_ble_eq_true rfl
     ·have:=thingT_size ho
      show 1+(thingT r.fThing).size≤300;omega
  ·rw [cond_true]
   cases hc:(isE r.fText && isZ r.fThing && inR r.fNum 0 3)
   ·exact Nat.zero_le _
   ·rw [Bool.and_eq_true,inR_iff] at hc
    have:=varL_len10 (n:=r.fNum) (by omega)
    rw [cond_true,ByteArray.size_append,one,ofBytes_size];omega
 ·rw [cond_true]
  cases hc:((r.fText.size:Int) == 32 && r.fNum == 0 && isZ r.fThing)
  ·exact Nat.zero_le _
  ·rw [Bool.and_eq_true,Bool.and_eq_true,beq_iff_eq] at hc
   rw [cond_true,ByteArray.size_append,one];omega
def bookName:ByteArray:=⟨#[98,111,111,107]⟩
def bookActs (k:ByteArray) (count:Int) (r:SRec):List SAct×Bool:=
 bif (recText r).2 && inR count 0 10000 then ([⟨1,bookName,(frameT (lockT k (count+1) (recText r).1).1).1,⟨#[]⟩⟩,⟨2,bookName,⟨#[]⟩,⟨#[]⟩⟩],true) else ([],false)
theorem lock_ok {k s:ByteArray} {num:Int} (h:0≤num∧num≤1000000000) (hs:s.size≤8000):(lockT k num s).2=true∧(lockT k num s).1=ofBytes (sealL (bs k) num (bs s))∧(lockT k num s).1.size=s.size+16:=by
 have hm:maskOk num s.size=true:=maskOk_iff.2 ⟨h,by omega,by omega⟩
 rw [lockT,hm]
 refine ⟨rfl,rfl,?_⟩
 rw [cond_true,ofBytes_size,sealL,List.length_append,xorL_len (by rw [maskL_len];omega),tagL_len,bs_len]
theorem frame_ok {t:ByteArray} (h:1≤t.size∧t.size≤9000):(frameT t).2=true∧(frameT t).1=ofBytes (frameL (bs t)):=by
 have hm:inR (t.size:Int) 1 9000=true:=inR_iff.2 (by omega)
 rw [frameT,hm];exact ⟨rfl,rfl⟩
theorem p_impl_BookActs {k:ByteArray} {count:Int} {r:SRec} (hk:k.size≤900000000) (hr:r.fNum≤9223372036854775807):impl_BookActs k count r=some (bookActs k count r):=by
 have hz:=recText_size r
 rw [impl_BookActs,E_impl_BookActs,p_impl_RecText hr,Option.bind_some,bookActs]
 cases h1:(recText r).2
 ·rfl
 rw [cond_f (by rfl),p_impl_in,Option.bind_some,Bool.true_and]
 cases h2:inR count 0 10000
 ·rfl
 rw [inR_iff] at h2
 obtain ⟨l1,l2,l3⟩:=lock_ok (k:=k) (s:=(recText r).1) (num:=count+1) (by omega) (by omega)
 obtain ⟨f1,f2⟩:=frame_ok (t:=(lockT k (count+1) (recText r).1).1) (by omega)
 rw [cond_f (by rfl),w64_id (by omega) (by omega),p_impl_LockText hk (by omega),Option.bind_some,p_impl_Frame (by omega),Option.bind_some,l1,f1]
 rfl
theorem p_impl_copyDisk {d:SDisk} (h:d.fFiles.length*40≤140737488355328):impl_copyDisk d=some d:=by
 rw [impl_copyDisk,E_impl_copyDisk,cond_t (by rw [decide_eq_true_eq];exact h)]
def fOk (f:SFile):Bool:=inR (f.fName.size:Int) 1 8 && (!decide ((f.fText.size:Int) > 20000) && inR f.fKept 0 (f.fText.size:Int))
def dRise:ByteArray→List SFile→Bool
 | _,[]=>true
 | p,f::fs=>fOk f && (Op.bytesLess p.toList f.fName.toList && dRise f.fName fs)
def prevN (l:List SFile):Nat→ByteArray
 | 0=>⟨#[]⟩
 | i+1=>((l[i]?).map (·.fName)).getD ⟨#[]⟩
theorem prevN_at {l:List SFile} {i:Nat} (hi:i<l.length):prevN l (i+1)=l[i].fName:=by simp [prevN,hi]
theorem dRise_at {l:List SFile} {i:Nat} (hi:i<l.length):dRise (prevN l i) (l.drop i)=(fOk l[i] && (Op.bytesLess (prevN l i).toList l[i].fName.toList && dRise (prevN l (i+1)) (l.drop (i+1)))):=by
 rw [drop_at hi,dRise,prevN_at hi]
def diskOk (d:SDisk):Bool:=decide ((d.fFiles.length:Int)≤30) && dRise ⟨#[]⟩ d.fFiles
theorem less_nil {s:ByteArray} (h:1≤s.size):Op.bytesLess (⟨#[]⟩:ByteArray).toList s.toList=true:=by
 rw [ByteArray.toList_eq,ByteArray.toList_eq]
 obtain ⟨⟨l⟩⟩:=s
 cases l with
 | nil=>exact absurd h (Nat.not_succ_le_zero 0)
 | cons x l=>rfl
def placeF:List SFile→ByteArray→Nat→Option Nat
 | [],_,_=>none
 | f::fs,n,i=>if f.fName.toList == n.toList then some i else placeF fs n (i+1)
theorem placeF_lt {n:ByteArray}:∀ {fs:List SFile} {i j:Nat},placeF fs n i=some j→i≤j∧j<i+fs.length:=by
 intro fs
 induction fs with
 | nil=>intro i j h;cases h
 | cons f fs ih=>
  intro i j h
  rw [placeF] at h
  rw [List.length_cons]
  split at h
  ·cases h;omega
  ·have:=ih h;omega
def atF (d:SDisk) (n:ByteArray):Int:=match placeF d.fFiles n 0 with | some j=>(j:Int) | none=> -1
def zFile:SFile:=⟨⟨#[]⟩,⟨#[]⟩,0⟩
def fileT (d:SDisk) (n:ByteArray):ByteArray×Bool:=match placeF d.fFiles n 0 with | some j=>((d.fFiles.getD j zFile).fText,true) | none=>(⟨#[]⟩,false)
theorem p_impl_fileAt {d:SDisk} {n:ByteArray} (h0:d.fFiles.length≤140737488351232):impl_fileAt d n=some (atF d n):=by
 have key:∀ (j i m:Nat),i+j=d.fFiles.length→L_impl_fileAt (m+j+1) (.c0 n d.fFiles (d.fFiles.length:Int) (i:Int))=some (match placeF (d.fFiles.drop i) n i with | some j=>(j:Int) | none=> -1):=by
  intro j
  induction j with
  | zero=>
   intro i m h
   obtain rfl:i=d.fFiles.length:=by omega
   rw [L_impl_fileAt]
   simp only [B_impl_fileAt]
   rw [cond_f (by simp),List.drop_length];rfl
  | succ j ih=>
   intro i m h
   have hi:i<d.fFiles.length:=by omega
   have e:w64 ((i:Int)+1)=((i+1:Nat):Int):=by rw [w64_id (by omega) (by omega)];rfl
   rw [show m+(j+1)+1=(m+j+1)+1 by omega,L_impl_fileAt]
   simp only [B_impl_fileAt,e,Int.toNat_natCast,getD_at hi,ih (i+1) m (by omega)]
   rw [cond_t (by simp;omega),cond_t (by simp;omega),drop_at hi,placeF]
   cases d.fFiles[i].fName.toList == n.toList <;> rfl
 obtain ⟨m,hm⟩:∃ m,gas=m+d.fFiles.length+1:=⟨gas - (d.fFiles.length+1),by have:=gas_lt (n:=d.fFiles.length+1) (by omega);omega⟩
 rw [impl_fileAt,E_impl_fileAt,hm,atF]
 exact key d.fFiles.length 0 m (by omega)
theorem p_impl_DiskOk {d:SDisk} (h0:d.fFiles.length≤140737488351232):impl_DiskOk d=some (diskOk d):=by
 rw [impl_DiskOk,E_impl_DiskOk,diskOk]
 have key:∀ (j i m:Nat),i+j=d.fFiles.length→L_impl_DiskOk (m+j+1) (.c0 d.fFiles (d.fFiles.length:Int) (i:Int) d)=some (decide ((d.fFiles.length:Int)≤30) && dRise (prevN d.fFiles i) (d.fFiles.drop i)):=by
  intro j
  induction j with
  | zero=>
   intro i m h
   obtain rfl:i=d.fFiles.length:=by omega
   rw [L_impl_DiskOk]
   simp only [B_impl_DiskOk]
   rw [cond_f (by simp),List.drop_length,dRise,Bool.and_true]
  | succ j ih=>
   intro i m h
   have hi:i<d.fFiles.length:=by omega
   have e:w64 ((i:Int)+1)=((i+1:Nat):Int):=by rw [w64_id (by omega) (by omega)];rfl
   have h2:=ih (i+1) m (by omega)
   have fls:∀ b:Bool,(b && false)=false:=fun b=>by cases b <;> rfl
   rw [show m+(j+1)+1=(m+j+1)+1 by omega,L_impl_DiskOk]
   simp only [B_impl_DiskOk,e,Int.toNat_natCast,getD_at hi,p_impl_in,Option.bind_some]
   rw [cond_t (by simp;omega),cond_t (by simp;omega),dRise_at hi,fOk,h2]
   cases hn:inR (d.fFiles[i].fName.size:Int) 1 8
   ·rw [Bool.false_and,Bool.false_and,fls];rfl
   cases decide ((d.fFiles[i].fText.size:Int) > 20000)
   ·cases inR d.fFiles[i].fKept 0 (d.fFiles[i].fText.size:Int)
    ·simp only [Bool.and_false,Bool.false_and];rfl
    ·by_cases hz:i=0
     ·subst hz
      rw [inR_iff] at hn
      rw [show prevN d.fFiles 0=⟨#[]⟩ from rfl,less_nil (by omega)];rfl
     ·obtain ⟨i',rfl⟩:∃ q,i=q+1:=⟨i - 1,by omega⟩
      have e2:w64 (((i'+1:Nat):Int) - 1)=(i':Int):=by rw [w64_id (by omega) (by omega)];omega
      rw [e2,Int.toNat_natCast,getD_at (show i'<d.fFiles.length by omega),prevN_at (i:=i') (by omega),cond_f (by rfl),cond_f (by rfl),cond_f (by rfl),cond_t (by simp;try omega),cond_t (by simp;try omega)]
      cases Op.bytesLess d.fFiles[i'].fName.toList d.fFiles[i'+1].fName.toList
      ·simp only [Bool.and_false,Bool.false_and];rfl
      ·rfl
   ·simp only [Bool.and_false,Bool.false_and,Bool.not_true];rfl
 obtain ⟨m,hm⟩:∃ m,gas=m+d.fFiles.length+1:=⟨gas - (d.fFiles.length+1),by have:=gas_lt (n:=d.fFiles.length+1) (by omega);omega⟩
 rw [hm]
 exact key d.fFiles.length 0 m (by omega)
theorem less_irr:∀ l:List UInt8,Op.bytesLess l l=false:=by
 intro l
 induction l with
 | nil=>rfl
 | cons x l ih=>simp [Op.bytesLess,ih]
theorem less_trans:∀ {a b c:List UInt8},Op.bytesLess a b=true→Op.bytesLess b c=true→Op.bytesLess a c=true:=by
 intro a
 induction a with
 | nil=>
  intro b c h1 h2
  cases c with
  | nil=>cases b <;> simp [Op.bytesLess] at h2
  | cons=>rfl
 | cons x a ih=>
  intro b c h1 h2
  cases b with
  | nil=>simp [Op.bytesLess] at h1
  | cons y b=>
   cases c with
   | nil=>simp [Op.bytesLess] at h2
   | cons z c=>
    simp only [Op.bytesLess,Bool.or_eq_true,Bool.and_eq_true,decide_eq_true_eq,beq_iff_eq] at h1 h2 ⊢
    rcases h1 with h1 | ⟨rfl,h1⟩ <;> rcases h2 with h2 | ⟨rfl,h2⟩
    ·exact .inl (UInt8.lt_trans h1 h2)
    ·exact .inl h1
    ·exact .inl h2
    ·exact .inr ⟨rfl,ih h1 h2⟩
theorem less_tri:∀ {a b:List UInt8},Op.bytesLess a b=false→a≠b→Op.bytesLess b a=true:=by
 intro a
 induction a with
 | nil=>
  intro b h1 h2
  cases b with
  | nil=>exact absurd rfl h2
  | cons=>simp [Op.bytesLess] at h1
 | cons x a ih=>
  intro b h1 h2
  cases b with
  | nil=>rfl
  | cons y b=>
   simp only [Op.bytesLess,Bool.or_eq_false_iff,decide_eq_false_iff_not,Bool.and_eq_false_iff,beq_eq_false_iff_ne] at h1
   simp only [Op.bytesLess,Bool.or_eq_true,Bool.and_eq_true,decide_eq_true_eq,beq_iff_eq]
   obtain ⟨h3,h4⟩:=h1
   by_cases he:x=y
   ·subst he
    refine .inr ⟨rfl,ih (h4.resolve_left (fun h=>h rfl)) (fun h=>h2 (by rw [h]))⟩
   ·refine .inl (UInt8.lt_of_le_of_ne (UInt8.not_lt.1 h3) (Ne.symm he))
theorem less_asym {a b:List UInt8} (h:Op.bytesLess a b=true):Op.bytesLess b a=false:=by
 cases h2:Op.bytesLess b a
 ·rfl
 ·have:=less_trans h h2
  rw [less_irr] at this;cases this
theorem less_ne {a b:List UInt8} (h:Op.bytesLess a b=true):a≠b:=by
 rintro rfl;rw [less_irr] at h;cases h
def outL (l:List SFile) (n:ByteArray):List SFile:=l.filter fun f=> !(f.fName.toList == n.toList)
def lowL (l:List SFile) (n:ByteArray):List SFile:=l.filter fun f=>Op.bytesLess f.fName.toList n.toList
def highL (l:List SFile) (n:ByteArray):List SFile:=l.filter fun f=> !(Op.bytesLess f.fName.toList n.toList || (f.fName.toList == n.toList))
def putL (l:List SFile) (f:SFile):List SFile:=lowL l f.fName++[f]++highL l f.fName
def eraF:List SFile→ByteArray→List SFile
 | [],_=>[]
 | g::gs,n=>bif g.fName.toList == n.toList then gs else g::eraF gs n
def insF:List SFile→SFile→List SFile
 | [],f=>[f]
 | g::gs,f=>bif Op.bytesLess g.fName.toList f.fName.toList then g::insF gs f else f::g::gs
def Sorted (l:List SFile):Prop:=l.Pairwise fun a b=>Op.bytesLess a.fName.toList b.fName.toList=true
theorem dRise_sorted:∀ {l:List SFile} {p:ByteArray},dRise p l=true→Sorted l∧∀ f ∈ l,Op.bytesLess p.toList f.fName.toList=true:=by
 intro l
 induction l with
 | nil=>intro p _;exact ⟨List.Pairwise.nil,fun f hf=>by cases hf⟩
 | cons g gs ih=>
  intro p h
  rw [dRise,Bool.and_eq_true,Bool.and_eq_true] at h
  obtain ⟨h1,h2⟩:=ih h.2.2
  refine ⟨List.Pairwise.cons h2 h1,fun f hf=>?_⟩
  rcases List.mem_cons.1 hf with rfl | hf
  ·exact h.2.1
  ·exact less_trans h.2.1 (h2 f hf)
theorem diskOk_sorted {d:SDisk} (h:diskOk d=true):Sorted d.fFiles:=by
 rw [diskOk,Bool.and_eq_true] at h
 exact (dRise_sorted h.2).1
theorem over_out {l:List SFile} {n:ByteArray} (h:∀ f ∈ l,Op.bytesLess n.toList f.fName.toList=true):outL l n=l∧lowL l n=[]∧highL l n=l:=by
 refine ⟨List.filter_eq_self.2 fun f hf=>?_,List.filter_eq_nil_iff.2 fun f hf=>?_,List.filter_eq_self.2 fun f hf=>?_⟩
 ·rw [show (f.fName.toList == n.toList)=false from beq_eq_false_iff_ne.2 (Ne.symm (less_ne (h f hf)))];rfl
 ·rw [less_asym (h f hf)];exact Bool.false_ne_true
 ·rw [less_asym (h f hf),show (f.fName.toList == n.toList)=false from beq_eq_false_iff_ne.2 (Ne.symm (less_ne (h f hf)))];rfl
theorem era_out:∀ {l:List SFile} {n:ByteArray},Sorted l→eraF l n=outL l n:=by
 intro l
 induction l with
 | nil=>intro n _;rfl
 | cons g gs ih=>
  intro n h
  obtain ⟨h1,h2⟩:=List.pairwise_cons.1 h
  rw [eraF,outL,List.filter_cons]
  cases he:g.fName.toList == n.toList
  ·rw [cond_false,Bool.not_false,if_pos rfl,ih h2,outL]
  ·rw [cond_true,Bool.not_true,if_neg Bool.false_ne_true]
   rw [beq_iff_eq] at he
   exact (over_out (n:=n) (fun f hf=>by have:=h1 f hf;rwa [he] at this)).1.symm
theorem place_era:∀ {l:List SFile} {n:ByteArray} {i:Nat},match placeF l n i with | some j=>l.take (j - i)++l.drop (j - i+1)=eraF l n | none=>eraF l n=l:=by
 intro l
 induction l with
 | nil=>intro n i;rfl
 | cons g gs ih=>
  intro n i
  rw [placeF,eraF]
  cases he:g.fName.toList == n.toList
  ·rw [if_neg Bool.false_ne_true,cond_false]
   have:=ih (n:=n) (i:=i+1)
   cases hp:placeF gs n (i+1) with
   | none=>rw [hp] at this;show g::eraF gs n=g::gs;rw [this]
   | some j=>
    rw [hp] at this
    have hj:=(placeF_lt hp).1
    show (g::gs).take (j - i)++(g::gs).drop (j - i+1)=g::eraF gs n
    rw [←this,show j - i=(j - (i+1))+1 by omega,List.take_succ_cons,List.drop_succ_cons];rfl
  ·rw [if_pos rfl,cond_true]
   show (g::gs).take (i - i)++(g::gs).drop (i - i+1)=gs
   rw [Nat.sub_self];rfl
theorem ins_put {f:SFile}:∀ {l:List SFile},Sorted l→insF (outL l f.fName) f=putL l f:=by
 intro l
 induction l with
 | nil=>intro _;rfl
 | cons g gs ih=>
  intro h
  obtain ⟨h1,h2⟩:=List.pairwise_cons.1 h
  cases hl:Op.bytesLess g.fName.toList f.fName.toList
  ·have hins:insF gs f=f::gs∨True:=.inr trivial
   by_cases he:g.fName.toList=f.fName.toList
   ·have ho:=over_out (l:=gs) (n:=f.fName) (fun x hx=>by have:=h1 x hx;rwa [he] at this)
    have hb:(g.fName.toList == f.fName.toList)=true:=beq_iff_eq.2 he
    have e1:outL (g::gs) f.fName=gs:=by rw [outL,List.filter_cons,hb];exact ho.1
    have e2:lowL (g::gs) f.fName=[]:=by rw [lowL,List.filter_cons,hl];exact ho.2.1
    have e3:highL (g::gs) f.fName=gs:=by rw [highL,List.filter_cons,hl,hb];exact ho.2.2
    rw [e1,putL,e2,e3]
    cases gs with
    | nil=>rfl
    | cons x xs=>
     have hx:=h1 x (List.mem_cons_self ..)
     rw [he] at hx
     rw [insF,less_asym hx];rfl
   ·have hg:=less_tri hl he
    have ho:=over_out (l:=g::gs) (n:=f.fName) (fun x hx=>by
     rcases List.mem_cons.1 hx with rfl | hx
     ·exact hg
     ·exact less_trans hg (h1 x hx))
    rw [ho.1,putL,ho.2.1,ho.2.2,insF,hl];rfl
  ·have hb:(g.fName.toList == f.fName.toList)=false:=beq_eq_false_iff_ne.2 (less_ne hl)
   have e1:outL (g::gs) f.fName=g::outL gs f.fName:=by rw [outL,List.filter_cons,hb];rfl
   have e2:lowL (g::gs) f.fName=g::lowL gs f.fName:=by rw [lowL,List.filter_cons,hl];rfl
   have e3:highL (g::gs) f.fName=highL gs f.fName:=by rw [highL,List.filter_cons,hl];rfl
   rw [e1,insF,hl,cond_true,ih h2,putL,putL,e2,e3];rfl
theorem filter_drop {α:Type} {l:List α} {p:α→Bool} {i:Nat} (hi:i<l.length):(l.drop i).filter p=(bif p l[i] then [l[i]] else [])++(l.drop (i+1)).filter p:=by
 rw [drop_at hi,List.filter_cons]
 cases p l[i] <;> rfl
theorem p_impl_Disk_dropFile {d:SDisk} {n:ByteArray} (h:d.fFiles.length*40≤140737488351232) (hs:Sorted d.fFiles):impl_Disk_dropFile d n=some ⟨outL d.fFiles n⟩:=by
 have hp:=place_era (l:=d.fFiles) (n:=n) (i:=0)
 rw [impl_Disk_dropFile,E_impl_Disk_dropFile,p_impl_fileAt (by omega),Option.bind_some,←era_out hs,atF]
 cases he:placeF d.fFiles n 0 with
 | none=>
  rw [he] at hp
  rw [hp];rfl
 | some j=>
  rw [he] at hp
  have hj:=(placeF_lt he).2
  have hw:w64 ((j:Int)+1)=((j+1:Nat):Int):=by rw [w64_id (by omega) (by omega)];rfl
  have hd:(d.fFiles.drop (j+1)).take (d.fFiles.length - (j+1))=d.fFiles.drop (j+1):=List.take_of_length_le (by rw [List.length_drop];omega)
  simp only [hw,Int.toNat_natCast,Nat.sub_zero,List.drop_zero,hd]
  rw [cond_t (by simp),cond_t (by simp;omega),cond_t (by simp [List.length_take];omega),cond_t (by simp;omega),cond_t (by simp [List.length_take,List.length_drop];omega)]
  simp only [Nat.sub_zero] at hp
  rw [hp]
theorem p_impl_Disk_putFile {d:SDisk} {f:SFile} (h:d.fFiles.length*40≤140737488351232) (hs:Sorted d.fFiles):impl_Disk_putFile d f=some ⟨putL d.fFiles f⟩:=by
 rw [impl_Disk_putFile,E_impl_Disk_putFile,p_impl_Disk_dropFile h hs,Option.bind_some,←ins_put hs]
 have hol:(outL d.fFiles f.fName).length≤d.fFiles.length:=List.length_filter_le _ _
 generalize hL:outL d.fFiles f.fName=l at hol ⊢
 have key:∀ (j i m:Nat),i+j=l.length→L_impl_Disk_putFile (m+j+1) (.c0 (i:Int) f l)=some ⟨l.take i++insF (l.drop i) f⟩:=by
  intro j
  induction j with
  | zero=>
   intro i m hi
   have hd:(l.drop i).take (l.length - i)=l.drop i:=List.take_of_length_le (by rw [List.length_drop];omega)
   rw [L_impl_Disk_putFile];simp only [B_impl_Disk_putFile,Int.toNat_natCast,Nat.sub_zero,List.drop_zero,hd]
   rw [cond_f (by simp;omega),cond_t (by simp;omega),cond_t (by simp [List.length_take];omega),cond_t (by simp [List.length_take];omega),cond_t (by simp;omega),cond_t (by simp [List.length_take,List.length_drop];omega)]
   rw [show l.drop i=[] from List.drop_of_length_le (by omega)]
   simp [insF]
  | succ j ih=>
   intro i m hi
   have hil:i<l.length:=by omega
   have hw:w64 ((i:Int)+1)=((i+1:Nat):Int):=by rw [w64_id (by omega) (by omega)];rfl
   have hd:(l.drop i).take (l.length - i)=l.drop i:=List.take_of_length_le (by rw [List.length_drop];omega)
   rw [show m+(j+1)+1=(m+j+1)+1 from rfl,L_impl_Disk_putFile]
   simp only [B_impl_Disk_putFile,Int.toNat_natCast,Nat.sub_zero,List.drop_zero,hd,hw,getD_at hil,ih (i+1) m (by omega)]
   rw [cond_t (by simp;omega),cond_t (by simp;omega),drop_at hil,insF]
   cases Op.bytesLess l[i].fName.toList f.fName.toList
   ·rw [cond_false,cond_false,←drop_at hil,cond_t (by simp;omega),cond_t (by simp [List.length_take];omega),cond_t (by simp [List.length_take];omega),cond_t (by simp;omega),cond_t (by simp [List.length_take,List.length_drop];omega)]
    simp
   ·rw [cond_true,cond_true,show l.take (i+1)=l.take i++[l[i]] by rw [List.take_add_one,List.getElem?_eq_getElem hil];rfl,List.append_assoc];rfl
 obtain ⟨m,hm⟩:∃ m,gas=m+l.length+1:=⟨gas - (l.length+1),by have:=gas_lt (n:=l.length+1) (by omega);omega⟩
 rw [hm]
 have:=key l.length 0 m (Nat.zero_add _)
 simpa using this
def doneD (l:List SFile):SDisk×Bool:=bif diskOk ⟨l⟩ then (⟨l⟩,true) else (⟨[]⟩,false)
def actAt (d:SDisk) (a:SAct) (f:SFile):SDisk×Bool:=
 bif a.fKind == 1 then doneD (putL d.fFiles ⟨f.fName,f.fText++a.fText,f.fKept⟩)
 else bif a.fKind == 2 then doneD (putL d.fFiles ⟨f.fName,f.fText,(f.fText.size:Int)⟩)
 else bif a.fKind == 3 then (bif decide (f.fKept<(f.fText.size:Int)) || (a.fTo.toList == a.fName.toList) then (⟨[]⟩,false) else doneD (putL (outL d.fFiles a.fName) ⟨a.fTo,f.fText,f.fKept⟩))
 else bif a.fKind == 4 then doneD (outL d.fFiles a.fName) else (⟨[]⟩,false)
def actT (d:SDisk) (a:SAct):SDisk×Bool:=
 bif diskOk d && ((a.fKind == 3 || a.fTo.toList == (⟨#[]⟩:ByteArray).toList) && (a.fKind == 1 || a.fText.toList == (⟨#[]⟩:ByteArray).toList)) then
  match placeF d.fFiles a.fName 0 with
  | some j=>actAt d a (d.fFiles.getD j zFile)
  | none=>bif a.fKind == 1 then doneD (putL d.fFiles ⟨a.fName,(⟨#[]⟩:ByteArray)++a.fText,0⟩) else (⟨[]⟩,false)
 else (⟨[]⟩,false)
theorem dRise_all:∀ {l:List SFile} {p:ByteArray},dRise p l=true→∀ f ∈ l,fOk f=true:=by
 intro l
 induction l with
 | nil=>intro p _ f hf;cases hf
 | cons g gs ih=>
  intro p h f hf
  rw [dRise,Bool.and_eq_true,Bool.and_eq_true] at h
  rcases List.mem_cons.1 hf with rfl | hf
  ·exact h.1
  ·exact ih h.2.2 f hf
theorem diskOk_all {d:SDisk} (h:diskOk d=true):d.fFiles.length≤30∧∀ f ∈ d.fFiles,fOk f=true:=by
 rw [diskOk,Bool.and_eq_true,decide_eq_true_eq] at h
 exact ⟨by omega,dRise_all h.2⟩
theorem fOk_iff {f:SFile}:fOk f=true↔(1≤(f.fName.size:Int)∧(f.fName.size:Int)≤8)∧(f.fText.size:Int)≤20000∧0≤f.fKept∧f.fKept≤(f.fText.size:Int):=by
 rw [fOk,Bool.and_eq_true,Bool.and_eq_true,inR_iff,inR_iff]
 simp
theorem doneD_bad {l:List SFile} {f:SFile} (hf:f ∈ l) (h:fOk f=false):doneD l=(⟨[]⟩,false):=by
 rw [doneD]
 cases hd:diskOk ⟨l⟩
 ·rfl
 ·rw [(diskOk_all hd).2 f hf] at h;cases h
theorem mem_put (l:List SFile) (f:SFile):f ∈ putL l f:=by rw [putL];simp
theorem fOk_name {f:SFile} (h:inR (f.fName.size:Int) 1 8=false):fOk f=false:=by rw [fOk,h];rfl
theorem out_len (l:List SFile) (n:ByteArray):(outL l n).length≤l.length:=List.length_filter_le _ _
theorem out_sorted {l:List SFile} {n:ByteArray} (h:Sorted l):Sorted (outL l n):=List.Pairwise.filter _ h
theorem place_name {n:ByteArray}:∀ {fs:List SFile} {i j:Nat},placeF fs n i=some j→(fs.getD (j - i) zFile).fName.toList=n.toList:=by
 intro fs
 induction fs with
 | nil=>intro i j h;cases h
 | cons f fs ih=>
  intro i j h
  rw [placeF] at h
  split at h
  ·rename_i he
   cases h
   rw [Nat.sub_self];exact beq_iff_eq.1 he
  ·have h1:=ih h
   have h2:=(placeF_lt h).1
   rw [show j - i=(j - (i+1))+1 by omega,List.getD_cons_succ];exact h1
theorem place_fOk {d:SDisk} {n:ByteArray} {j:Nat} (h:diskOk d=true) (hp:placeF d.fFiles n 0=some j):j<d.fFiles.length∧fOk (d.fFiles.getD j zFile)=true∧inR (n.size:Int) 1 8=true∧(d.fFiles.getD j zFile).fName=n:=by
 have h1:=(placeF_lt hp).2
 have h2:=place_name hp
 rw [Nat.sub_zero] at h2
 have h3:j<d.fFiles.length:=by omega
 have h4:fOk (d.fFiles.getD j zFile)=true:=by rw [getD_at h3];exact (diskOk_all h).2 _ (List.getElem_mem _)
 have h5:(d.fFiles.getD j zFile).fName=n:=by
  have:=toList_inj (s:=(d.fFiles.getD j zFile).fName) (t:=n)
  rw [h2,beq_self_eq_true] at this
  exact of_decide_eq_true this.symm
 refine ⟨h3,h4,?_,h5⟩
 rw [fOk,Bool.and_eq_true,h5] at h4
 exact h4.1
theorem low_high (n:ByteArray):∀ l:List SFile,(lowL l n).length+(highL l n).length≤l.length:=by
 intro l
 induction l with
 | nil=>exact Nat.le_refl _
 | cons g gs ih=>
  rw [lowL,highL] at ih ⊢
  rw [List.filter_cons,List.filter_cons,List.length_cons]
  cases Op.bytesLess g.fName.toList n.toList <;> cases g.fName.toList == n.toList <;> simp only [Bool.or_self,Bool.or_true,Bool.or_false,Bool.true_or,Bool.false_or,Bool.not_true,Bool.not_false,if_true,if_false,List.length_cons,Bool.false_eq_true,ite_true,ite_false] <;> omega
theorem p_impl_DoAct {d:SDisk} {a:SAct} (hd:d.fFiles.length*40≤140737488351232) (ha:a.fText.size≤140737488351232):impl_DoAct d a=some (actT d a):=by
 have ho:=out_len d.fFiles a.fName
 rw [impl_DoAct,E_impl_DoAct,actT]
 simp only [p_impl_DiskOk (d:=d) (by omega),p_impl_fileAt (d:=d) (n:=a.fName) (by omega),p_impl_copyDisk (d:=d) (by omega),Option.bind_some,bne]
 cases hdk:diskOk d
 ·rfl
 obtain ⟨hl,hok⟩:=diskOk_all hdk
 have hs:=diskOk_sorted hdk
 have hpl:∀ (l:List SFile) (f:SFile),l.length≤30→(putL l f).length≤31:=fun l f h=>by
  have:=low_high f.fName l
  rw [putL,List.length_append,List.length_append];simp only [List.length_cons,List.length_nil];omega
 simp only [p_impl_Disk_dropFile (d:=d) (n:=a.fName) hd hs,fun f=>p_impl_Disk_putFile (d:=d) (f:=f) hd hs,fun f=>p_impl_Disk_putFile (d:=⟨outL d.fFiles a.fName⟩) (f:=f) (show (outL d.fFiles a.fName).length*40≤_ by omega) (out_sorted hs),Option.bind_some,
  fun f=>p_impl_DiskOk (d:=⟨putL d.fFiles f⟩) (show (putL d.fFiles f).length≤_ by have:=hpl d.fFiles f hl;omega),fun f=>p_impl_DiskOk (d:=⟨putL (outL d.fFiles a.fName) f⟩) (show (putL (outL d.fFiles a.fName) f).length≤_ by have:=hpl (outL d.fFiles a.fName) f (by omega);omega),p_impl_DiskOk (d:=⟨outL d.fFiles a.fName⟩) (show (outL d.fFiles a.fName).length≤_ by omega)]
 have fin:∀ l:List SFile,(bif !diskOk ⟨l⟩ then some ((⟨[]⟩:SDisk),false) else some (⟨l⟩,true))=some (doneD l):=fun l=>by rw [doneD];cases diskOk ⟨l⟩ <;> rfl
 have ht:∀ f,fOk f=true→f.fText.size+a.fText.size≤9223372036854775807:=fun f hf=>by have:=(fOk_iff.1 hf).2.1;omega
 simp only [fin,Bool.true_and,Bool.not_true,cond_false]
 cases hp:placeF d.fFiles a.fName 0 with
 | some j=>
  obtain ⟨hj,hfo,_,_⟩:=place_fOk hdk hp
  simp only [show atF d a.fName=(j:Int) by rw [atF,hp],Int.toNat_natCast,show decide ((j:Int)≥0)=true from decide_eq_true (by omega),show decide ((j:Int)<0)=false from decide_eq_false (by omega),show decide ((j:Int)<(d.fFiles.length:Int))=true from decide_eq_true (by omega),Bool.and_self,cond_true,cond_false]
  generalize hf:d.fFiles.getD j zFile=f at hfo
  have hf':d.fFiles.getD j (⟨⟨#[]⟩,⟨#[]⟩,0⟩:SFile)=f:=hf
  have hk:(f.fKept == (f.fText.size:Int)) = !decide (f.fKept<(f.fText.size:Int)):=by
   have:=(fOk_iff.1 hfo).2.2
   by_cases h:f.fKept=(f.fText.size:Int)
   ·rw [beq_iff_eq.2 h,decide_eq_false (by omega)];rfl
   ·rw [beq_eq_false_iff_ne.2 h,decide_eq_true (by omega)];rfl
  simp only [hf',decide_eq_true (ht f hfo),cond_true,actAt,hk]
  cases a.fKind == 1 <;> cases a.fKind == 2 <;> cases a.fKind == 3 <;> cases a.fKind == 4 <;> cases a.fTo.toList == (⟨#[]⟩:ByteArray).toList <;> cases a.fText.toList == (⟨#[]⟩:ByteArray).toList <;> cases decide (f.fKept<(f.fText.size:Int)) <;> cases a.fTo.toList == a.fName.toList <;> rfl
 | none=>
  have hs:decide ((⟨#[]⟩:ByteArray).size+a.fText.size≤9223372036854775807)=true:=decide_eq_true (by show 0+a.fText.size≤_;omega)
  simp only [show atF d a.fName = -1 by rw [atF,hp],show decide ((-1:Int)≥0)=false from rfl,show decide ((-1:Int)<0)=true from rfl,hs,cond_true,cond_false]
  cases a.fKind == 1 <;> cases a.fKind == 2 <;> cases a.fKind == 3 <;> cases a.fKind == 4 <;> cases a.fTo.toList == (⟨#[]⟩:ByteArray).toList <;> cases a.fText.toList == (⟨#[]⟩:ByteArray).toList <;> rfl
def actsT:SDisk→List SAct→Int→SDisk×Int
 | d,[],i=>(d,i)
 | d,a::r,i=>bif (actT d a).2 then actsT (actT d a).1 r (i+1) else (d,i)
theorem doneD_ok {l:List SFile} (h:(doneD l).2=true):diskOk (doneD l).1=true:=by
 rw [doneD] at h ⊢
 cases hd:diskOk ⟨l⟩
 ·rw [hd] at h;cases h
 ·rw [cond_true];exact hd
theorem actAt_ok {d:SDisk} {a:SAct} {f:SFile} (h:(actAt d a f).2=true):diskOk (actAt d a f).1=true:=by
 rw [actAt] at h ⊢
 revert h
 cases a.fKind == 1
 ·cases a.fKind == 2
  ·cases a.fKind == 3
   ·cases a.fKind == 4
    ·intro h;cases h
    ·intro h;exact doneD_ok h
   ·cases decide (f.fKept<(f.fText.size:Int)) || (a.fTo.toList == a.fName.toList)
    ·intro h;exact doneD_ok h
    ·intro h;cases h
  ·intro h;exact doneD_ok h
 ·intro h;exact doneD_ok h
theorem actT_ok {d:SDisk} {a:SAct} (h:(actT d a).2=true):diskOk (actT d a).1=true:=by
 rw [actT] at h ⊢
 revert h
 cases diskOk d && ((a.fKind == 3 || a.fTo.toList == (⟨#[]⟩:ByteArray).toList) && (a.fKind == 1 || a.fText.toList == (⟨#[]⟩:ByteArray).toList))
 ·intro h;cases h
 ·cases placeF d.fFiles a.fName 0 with
  | some j=>intro h;exact actAt_ok h
  | none=>
   cases a.fKind == 1
   ·intro h;cases h
   ·intro h;exact doneD_ok h
theorem actsT_le:∀ (l:List SAct) (d:SDisk) (i:Int) (B:Nat),30≤B→d.fFiles.length≤B→(actsT d l i).1.fFiles.length≤B:=by
 intro l
 induction l with
 | nil=>intro d i B _ h;exact h
 | cons a r ih=>
  intro d i B hB h
  rw [actsT]
  cases ha:(actT d a).2
  ·exact h
  ·exact ih _ _ B hB (Nat.le_trans (diskOk_all (actT_ok ha)).1 hB)
theorem p_impl_DoActs {d:SDisk} {l:List SAct} (hd:d.fFiles.length*40≤140737488351232) (hl:l.length≤140737488351232) (ha:∀ a ∈ l,a.fText.size≤140737488351232):impl_DoActs d l=some (actsT d l 0):=by
 have key:∀ (j i m:Nat) (out:List SFile),i+j=l.length→out.length*40≤140737488351232→L_impl_DoActs (m+j+1) (.c0 l l (l.length:Int) (i:Int) [] out)=some (actsT ⟨out⟩ (l.drop i) (i:Int)):=by
  intro j
  induction j with
  | zero=>
   intro i m out hi ho
   rw [L_impl_DoActs];simp only [B_impl_DoActs]
   rw [cond_f (by simp;omega),List.drop_of_length_le (by omega),actsT,show (l.length:Int)=(i:Int) by omega]
  | succ j ih=>
   intro i m out hi ho
   have hil:i<l.length:=by omega
   have hw:w64 ((i:Int)+1)=((i+1:Nat):Int):=by rw [w64_id (by omega) (by omega)];rfl
   rw [show m+(j+1)+1=(m+j+1)+1 from rfl,L_impl_DoActs]
   simp only [B_impl_DoActs,show decide ((i:Int)<(l.length:Int))=true from decide_eq_true (by omega),show decide ((0:Int)≤(i:Int))=true from decide_eq_true (by omega),Bool.and_self,cond_true,Int.toNat_natCast,hw,getD_at hil,p_impl_DoAct (d:=⟨out⟩) (a:=l[i]) ho (ha _ (List.getElem_mem hil)),Option.bind_some]
   rw [drop_at hil,actsT]
   cases hr:(actT ⟨out⟩ l[i]).2
   ·rfl
   ·have h30:=(diskOk_all (actT_ok hr)).1
    rw [Bool.not_true,cond_false,cond_true,ih (i+1) m _ (by omega) (by omega)];rfl
 obtain ⟨m,hm⟩:∃ m,gas=m+l.length+1:=⟨gas - (l.length+1),by have:=gas_lt (n:=l.length+1) (by omega);omega⟩
 rw [impl_DoActs,E_impl_DoActs,p_impl_copyDisk (by omega),Option.bind_some,hm]
 exact key l.length 0 m _ (Nat.zero_add _) hd
def rise (last:Int):Int→List SThing→Bool
 | _,[]=>true
 | p,x::xs=>thingOk x && (!decide (x.fId > last) && (!decide (p≥x.fId) && rise last x.fId xs))
def prevId (l:List SThing):Nat→Int
 | 0=>0
 | i+1=>((l[i]?).map (·.fId)).getD 0
theorem prevId_at {l:List SThing} {i:Nat} (hi:i<l.length):prevId l (i+1)=l[i].fId:=by simp [prevId,hi]
theorem rise_at {l:List SThing} {last:Int} {i:Nat} (hi:i<l.length):rise last (prevId l i) (l.drop i)=(thingOk l[i] && (!decide (l[i].fId > last) && (!decide (prevId l i≥l[i].fId) && rise last (prevId l (i+1)) (l.drop (i+1))))):=by
 rw [drop_at hi,rise,prevId_at hi]
def bookOk (b:SBook):Bool:=(b.fWord.size:Int) == 32 && ((b.fChain.size:Int) == 32 && (inR b.fTries 0 3 && (decide ((b.fThings.length:Int)≤8) && (inR b.fLast 0 1000 && (inR b.fCount 0 10000 && rise b.fLast 0 b.fThings)))))
def bookOk1 (b:SBook):Bool:=(b.fWord.size:Int) == 32 && ((b.fChain.size:Int) == 32 && (inR b.fTries 0 3 && (decide ((b.fThings.length:Int)≤8) && (inR b.fLast 0 1000 && inR b.fCount 0 10000))))
theorem bookOk_loop2 {b:SBook} (hb:b.fThings.length≤140737488351232):∀ m i,i≤b.fThings.length→b.fThings.length - i<m→L_impl_BookOk m (.c0 b.fThings b.fThings.length i b)=some (rise b.fLast (prevId b.fThings i) (b.fThings.drop i) && bookOk1 b):=fun m i h1 h2=>
 loopN (A:=Unit) (n:=b.fThings.length) (Lp:=L_impl_BookOk) (st:=fun i _=>.c0 b.fThings b.fThings.length i b) (Inv:=fun _ _=>True) (out:=fun i _=>some (rise b.fLast (prevId b.fThings i) (b.fThings.drop i) && bookOk1 b))
  (fun m _ _=>by
   simp only [L_impl_BookOk,B_impl_BookOk,p_impl_in,Option.bind_some,bookOk1]
   rw [show decide ((b.fThings.length:Int)<(b.fThings.length:Int))=false from decide_eq_false (by omega),List.drop_of_length_le (Nat.le_refl _)]
   cases (b.fWord.size:Int) == 32 <;> cases (b.fChain.size:Int) == 32 <;> cases inR b.fTries 0 3 <;> cases decide ((b.fThings.length:Int)≤8) <;> cases inR b.fLast 0 1000 <;> rfl)
  (fun m i _ hi _=>by
   have hw:w64 ((i:Int)+1)=((i+1:Nat):Int):=by rw [w64_id (by omega) (by omega)];rfl
   simp only [rise_at hi]
   simp only [L_impl_BookOk,B_impl_BookOk,Int.toNat_natCast,getD_at hi,p_impl_ThingOk,Option.bind_some,hw]
   rw [show decide ((i:Int)<(b.fThings.length:Int))=true from decide_eq_true (by omega),show decide ((0:Int)≤(i:Int))=true from decide_eq_true (by omega)]
   simp only [Bool.and_self,cond_true]
   cases h1:thingOk b.fThings[i]
   ·exact .inl rfl
   ·cases h2:decide (b.fThings[i].fId > b.fLast)
    ·by_cases h0:i=0
     ·subst h0
      refine .inr ⟨(),rfl,trivial,?_⟩
      rw [show decide (prevId b.fThings 0≥b.fThings[0].fId)=false from decide_eq_false (by have:=(thingOk_kind h1).2.2.1;simp only [prevId];omega)]
      rfl
     ·obtain ⟨j,rfl⟩:∃ j,i=j+1:=⟨i - 1,by omega⟩
      have hj:w64 (((j+1:Nat):Int) - 1)=(j:Int):=by rw [w64_id (by omega) (by omega)];omega
      have hjl:j<b.fThings.length:=by omega
      rw [prevId_at hjl]
      simp only [hj,Int.toNat_natCast,getD_at hjl,Bool.not_true,Bool.not_false,cond_false,Bool.true_and]
      rw [show decide (((j+1:Nat):Int) > 0)=true from decide_eq_true (by omega),show decide ((0:Int)≤(j:Int))=true from decide_eq_true (by omega),show decide ((j:Int)<(b.fThings.length:Int))=true from decide_eq_true (by omega)]
      simp only [Bool.and_self,cond_true]
      cases h3:decide (b.fThings[j].fId≥b.fThings[j+1].fId)
      ·exact .inr ⟨(),rfl,trivial,rfl⟩
      ·exact .inl rfl
    ·exact .inl rfl) m i () h1 h2 trivial
theorem p_impl_BookOk {b:SBook} (hb:b.fThings.length≤140737488351232):impl_BookOk b=some (bookOk b):=by
 have h0:=bookOk_loop2 hb gas 0 (Nat.zero_le _) (gas_lt (by omega))
 simp only [impl_BookOk,E_impl_BookOk]
 refine h0.trans (congrArg some ?_)
 simp only [bookOk,bookOk1,List.drop_zero,prevId]
 cases rise b.fLast 0 b.fThings <;> simp
theorem p_impl_copyBook {b:SBook} (h:b.fThings.length≤2932031007317):impl_copyBook b=some b:=by
 rw [impl_copyBook,E_impl_copyBook,cond_t (by simp;omega)]
def thingIn (xs:List SThing) (t:Int):Option SThing:=xs.find? fun x=>x.fId == t
def zThing:SThing:=⟨0,0,false,false,false,false,⟨#[]⟩,0⟩
def placeIn:List SThing→Int→Nat→Option Nat
 | [],_,_=>none
 | x::xs,t,i=>if x.fId == t then some i else placeIn xs t (i+1)
theorem placeIn_find (t:Int):∀ (xs:List SThing) (i:Nat),match placeIn xs t i with | some j=>i≤j∧j<i+xs.length∧thingIn xs t=xs[j - i]? | none=>thingIn xs t=none:=by
 intro xs
 induction xs with
 | nil=>intro i;rfl
 | cons x xs ih=>
  intro i
  simp only [placeIn,thingIn,List.find?_cons]
  cases hq:x.fId == t
  ·have:=ih (i+1)
   simp only [Bool.false_eq_true,if_false]
   split at this
   ·rename_i j hj
    obtain ⟨h1,h2,h3⟩:=this
    refine ⟨by omega,by simp;omega,?_⟩
    rw [show j - i=(j - (i+1))+1 by omega,List.getElem?_cons_succ]
    exact h3
   ·exact this
  ·simp
theorem p_impl_thingAt {b:SBook} {t:Int} (h:b.fThings.length≤140737488351232):impl_thingAt b t=some (match placeIn b.fThings t 0 with | some j=>(j:Int) | none=> -1):=by
 have key:∀ m i,i≤b.fThings.length→b.fThings.length - i<m→L_impl_thingAt m (.c0 t b.fThings b.fThings.length i)=some (match placeIn (b.fThings.drop i) t i with | some j=>(j:Int) | none=> -1):=fun m i h1 h2=>
  loopN (A:=Unit) (n:=b.fThings.length) (Lp:=L_impl_thingAt) (st:=fun i _=>.c0 t b.fThings b.fThings.length i) (Inv:=fun _ _=>True) (out:=fun i _=>some (match placeIn (b.fThings.drop i) t i with | some j=>(j:Int) | none=> -1))
   (fun m _ _=>by simp [L_impl_thingAt,B_impl_thingAt,placeIn])
   (fun m i _ hi _=>by
    have hw:w64 ((i:Int)+1)=((i+1:Nat):Int):=by rw [w64_id (by omega) (by omega)];rfl
    simp only [L_impl_thingAt,B_impl_thingAt,Int.toNat_natCast,getD_at hi,hw,drop_at hi,placeIn]
    cases hq:b.fThings[i].fId == t
    ·exact .inr ⟨(),by simp [hi],trivial,by simp⟩
    ·exact .inl (by simp [hi])) m i () h1 h2 trivial
 have h0:=key gas 0 (Nat.zero_le _) (gas_lt (by omega))
 exact h0
theorem bookOk_iff {b:SBook}:bookOk b=true↔b.fWord.size=32∧b.fChain.size=32∧(0≤b.fTries∧b.fTries≤3)∧b.fThings.length≤8∧(0≤b.fLast∧b.fLast≤1000)∧(0≤b.fCount∧b.fCount≤10000)∧rise b.fLast 0 b.fThings=true:=by
 simp only [bookOk,Bool.and_eq_true,beq_iff_eq,inR_iff,decide_eq_true_eq]
 exact ⟨fun ⟨h1,h2,h3,h4,h5,h6,h7⟩=>⟨by omega,by omega,h3,by omega,h5,h6,h7⟩,fun ⟨h1,h2,h3,h4,h5,h6,h7⟩=>⟨by omega,by omega,h3,by omega,h5,h6,h7⟩⟩
theorem rise_cons {last p:Int} {x:SThing} {xs:List SThing}:rise last p (x::xs)=true↔thingOk x=true∧x.fId≤last∧p<x.fId∧rise last x.fId xs=true:=by
 simp only [rise,Bool.and_eq_true,Bool.not_eq_true',decide_eq_false_iff_not]
 exact ⟨fun ⟨h1,h2,h3,h4⟩=>⟨h1,by omega,by omega,h4⟩,fun ⟨h1,h2,h3,h4⟩=>⟨h1,by omega,by omega,h4⟩⟩
theorem rise_all {last:Int}:∀ {xs:List SThing} {p:Int},rise last p xs=true→∀ x ∈ xs,p<x.fId∧x.fId≤last∧thingOk x=true
 | [],_,_,x,hx=>by cases hx
 | y::ys,p,h,x,hx=>by
  obtain ⟨h1,h2,h3,h4⟩:=rise_cons.1 h
  rcases List.mem_cons.1 hx with rfl | hx
  ·exact ⟨h3,h2,h1⟩
  ·have:=rise_all h4 x hx
   exact ⟨by omega,this.2.1,this.2.2⟩
theorem rise_mono {last last2:Int} (hl:last≤last2):∀ {xs:List SThing} {p p2:Int},p2≤p→rise last p xs=true→rise last2 p2 xs=true
 | [],_,_,_,_=>rfl
 | y::ys,p,p2,hp,h=>by
  obtain ⟨h1,h2,h3,h4⟩:=rise_cons.1 h
  exact rise_cons.2 ⟨h1,by omega,by omega,rise_mono hl (Int.le_refl _) h4⟩
def ltF (x:SThing) (ts:List SThing):List SThing:=ts.filter fun t=>decide (t.fId<x.fId)
def gtF (x:SThing) (ts:List SThing):List SThing:=ts.filter fun t=>decide (t.fId > x.fId)
def putAt (ts:List SThing) (x:SThing):List SThing:=ltF x ts++x::gtF x ts
def without (ts:List SThing) (id:Int):List SThing:=ts.filter fun t=>t.fId != id
theorem ltF_none {last:Int} {x:SThing}:∀ {xs:List SThing} {p:Int},x.fId≤p→rise last p xs=true→ltF x xs=[]∧gtF x xs=xs∧without xs x.fId=xs:=by
 intro xs p hp h
 have ha:=rise_all h
 refine ⟨List.filter_eq_nil_iff.2 fun t ht=>?_,List.filter_eq_self.2 fun t ht=>?_,List.filter_eq_self.2 fun t ht=>?_⟩
 ·have:=ha t ht;rw [decide_eq_true_eq];omega
 ·have:=ha t ht;rw [decide_eq_true_eq];omega
 ·have:=ha t ht;rw [bne_iff_ne];omega
theorem place_ge {id:Int}:∀ {xs:List SThing} {i j:Nat},placeIn xs id i=some j→i≤j∧∃ x ∈ xs,x.fId=id:=by
 intro xs
 induction xs with
 | nil=>intro i j h;cases h
 | cons y ys ih=>
  intro i j h
  rw [placeIn] at h
  split at h
  ·rename_i hy;cases h;exact ⟨Nat.le_refl _,y,List.mem_cons_self ..,beq_iff_eq.1 hy⟩
  ·obtain ⟨h1,x,h2,h3⟩:=ih h;exact ⟨by omega,x,List.mem_cons_of_mem _ h2,h3⟩
theorem set_put {last:Int} {x:SThing}:∀ {xs:List SThing} {p:Int} {i j:Nat},rise last p xs=true→placeIn xs x.fId i=some j→xs.set (j - i) x=putAt xs x∧(xs.take (j - i)++xs.drop (j - i+1))=without xs x.fId:=by
 intro xs
 induction xs with
 | nil=>intro p i j _ h;cases h
 | cons y ys ih=>
  intro p i j hr h
  obtain ⟨h1,h2,h3,h4⟩:=rise_cons.1 hr
  rw [placeIn] at h
  split at h
  ·rename_i hy
   have hy:=beq_iff_eq.1 hy
   cases h
   obtain ⟨f1,f2,f3⟩:=ltF_none (x:=x) (by omega) h4
   rw [Nat.sub_self]
   simp only [putAt,ltF,gtF,without,List.filter_cons] at f1 f2 f3 ⊢
   rw [decide_eq_false (by omega),decide_eq_false (by omega),show (y.fId != x.fId)=false by rw [bne_eq_false_iff_eq];exact hy]
   simp [f1,f2,f3]
  ·rename_i hy
   obtain ⟨h5,z,h6,h7⟩:=place_ge h
   have h8:=rise_all h4 z h6
   obtain ⟨i1,i2⟩:=ih h4 h
   have e:j - i=(j - (i+1))+1:=by omega
   rw [e,List.set_cons_succ,i1,List.take_succ_cons,List.drop_succ_cons,List.cons_append,i2]
   simp only [putAt,ltF,gtF,without,List.filter_cons]
   rw [decide_eq_true (by omega),decide_eq_false (by omega),show (y.fId != x.fId)=true by rw [bne_iff_ne];omega]
   simp
theorem put_new {last:Int} {x:SThing} {xs:List SThing} {p:Int} (h:rise last p xs=true) (hx:last<x.fId):putAt xs x=xs++[x]∧thingIn xs x.fId=none:=by
 have ha:=rise_all h
 constructor
 ·rw [putAt,ltF,gtF,List.filter_eq_self.2 fun t ht=>by have:=ha t ht;rw [decide_eq_true_eq];omega,List.filter_eq_nil_iff.2 fun t ht=>by have:=ha t ht;rw [decide_eq_true_eq];omega]
 ·rw [thingIn,List.find?_eq_none]
  intro t ht
  have:=ha t ht
  rw [beq_iff_eq];omega
theorem rise_app {last:Int} {x:SThing} (hx:thingOk x=true) (hl:last<x.fId):∀ {xs:List SThing} {p:Int},p<x.fId→rise last p xs=true→rise x.fId p (xs++[x])=true:=by
 intro xs
 induction xs with
 | nil=>intro p hp _;exact rise_cons.2 ⟨hx,Int.le_refl _,hp,rfl⟩
 | cons y ys ih=>
  intro p hp h
  obtain ⟨h1,h2,h3,h4⟩:=rise_cons.1 h
  exact rise_cons.2 ⟨h1,by omega,h3,ih (by omega) h4⟩
theorem rise_set {last:Int} {x:SThing} (hx:thingOk x=true):∀ {xs:List SThing} {p:Int} {i j:Nat},rise last p xs=true→placeIn xs x.fId i=some j→rise last p (xs.set (j - i) x)=true:=by
 intro xs
 induction xs with
 | nil=>intro p i j _ h;cases h
 | cons y ys ih=>
  intro p i j hr h
  obtain ⟨h1,h2,h3,h4⟩:=rise_cons.1 hr
  rw [placeIn] at h
  split at h
  ·rename_i hy
   have hy:=beq_iff_eq.1 hy
   cases h
   rw [Nat.sub_self,List.set_cons_zero]
   exact rise_cons.2 ⟨hx,by omega,by omega,rise_mono (Int.le_refl _) (by omega) h4⟩
  ·have h5:=(place_ge h).1
   have e:j - i=(j - (i+1))+1:=by omega
   rw [e,List.set_cons_succ]
   exact rise_cons.2 ⟨h1,h2,h3,ih h4 h⟩
theorem rise_without {last:Int} (id:Int):∀ {xs:List SThing} {p:Int},rise last p xs=true→rise last p (without xs id)=true:=by
 intro xs
 induction xs with
 | nil=>intro p _;rfl
 | cons y ys ih=>
  intro p h
  obtain ⟨h1,h2,h3,h4⟩:=rise_cons.1 h
  rw [without,List.filter_cons]
  split
  ·exact rise_cons.2 ⟨h1,h2,h3,ih h4⟩
  ·exact rise_mono (Int.le_refl _) (by omega) (ih h4)
def grown (x y:SThing):Bool:=y.fKind == x.fKind && ((bs y.fValue == bs x.fValue) && (y.fSigns == x.fSigns && (y.fWraps == x.fWraps && (decide (x.fNext≤y.fNext) && ((y.fHidden || !x.fHidden) && (y.fFixed || !x.fFixed))))))
def zBook:SBook:=⟨⟨#[]⟩,0,[],0,⟨#[]⟩,0⟩
def putThing (b:SBook) (x:SThing):Option (List SThing×Int):=match thingIn b.fThings x.fId with
 | some old=>bif grown old x then some (putAt b.fThings x,b.fLast) else none
 | none=>bif x.fId != b.fLast+1 || decide ((b.fThings.length:Int)≥8) then none else some (b.fThings++[x],x.fId)
def enterB (b:SBook) (r:SRec):SBook×Bool:=
 bif !(bookOk b) || (!(recText r).2 || decide (b.fCount≥10000)) then (zBook,false)
 else bif r.fKind == 1 then (⟨r.fText,0,b.fThings,b.fLast,dig (b.fChain++(recText r).1),b.fCount+1⟩,true)
 else bif r.fKind == 2 then (⟨b.fWord,r.fNum,b.fThings,b.fLast,dig (b.fChain++(recText r).1),b.fCount+1⟩,true)
 else bif r.fKind == 3 then (match putThing b r.fThing with
  | some p=>(⟨b.fWord,b.fTries,p.1,p.2,dig (b.fChain++(recText r).1),b.fCount+1⟩,true)
  | none=>(zBook,false))
 else (match thingIn b.fThings r.fNum with
  | some _=>(⟨b.fWord,b.fTries,without b.fThings r.fNum,b.fLast,dig (b.fChain++(recText r).1),b.fCount+1⟩,true)
  | none=>(zBook,false))
theorem thing_place {xs:List SThing} {id:Int}:(∃ x j,thingIn xs id=some x∧placeIn xs id 0=some j∧j<xs.length∧xs[j]?=some x∧x.fId=id)∨(thingIn xs id=none∧placeIn xs id 0=none):=by
 have h:=placeIn_find id xs 0
 cases hp:placeIn xs id 0 with
 | none=>rw [hp] at h;exact .inr ⟨h,rfl⟩
 | some j=>
  rw [hp] at h
  obtain ⟨_,h2,h3⟩:=h
  rw [Nat.sub_zero] at h3
  rw [Nat.zero_add] at h2
  refine .inl ⟨xs[j],j,?_,rfl,h2,List.getElem?_eq_getElem h2,?_⟩
  ·rw [h3,List.getElem?_eq_getElem h2]
  ·have h4:thingIn xs id=some xs[j]:=by rw [h3,List.getElem?_eq_getElem h2]
   have:=List.find?_some h4
   exact beq_iff_eq.1 this
theorem enterB_ok {b:SBook} {r:SRec} (h:(enterB b r).2=true):bookOk b=true∧(recText r).2=true∧b.fCount<10000∧bookOk (enterB b r).1=true∧(enterB b r).1.fCount=b.fCount+1∧(enterB b r).1.fChain=dig (b.fChain++(recText r).1):=by
 rw [enterB] at h ⊢
 cases h1:bookOk b
 ·rw [h1] at h;cases h
 cases h2:(recText r).2
 ·rw [h1,h2] at h;cases h
 by_cases h3:b.fCount≥10000
 ·rw [h1,h2,decide_eq_true h3] at h;cases h
 rw [h1,h2,decide_eq_false h3] at h
 rw [decide_eq_false h3]
 simp only [Bool.not_true,Bool.or_false,cond_false] at h ⊢
 obtain ⟨b1,b2,b3,b4,b5,b6,b7⟩:=bookOk_iff.1 h1
 refine ⟨trivial,trivial,by omega,?_⟩
 have hd:∀ s,(dig s).size=32:=dig_size
 rcases recText_cases h2 with ⟨hk,hz⟩ | ⟨hk,hz⟩ | ⟨hk,hz⟩ | ⟨hk,hz⟩
 ·rw [hk]
  exact ⟨bookOk_iff.2 ⟨hz,hd _,(by decide:(0:Int)≤0∧(0:Int)≤3),b4,b5,by show 0≤b.fCount+1∧b.fCount+1≤10000;omega,b7⟩,rfl,rfl⟩
 ·rw [hk]
  exact ⟨bookOk_iff.2 ⟨b1,hd _,hz,b4,b5,by show 0≤b.fCount+1∧b.fCount+1≤10000;omega,b7⟩,rfl,rfl⟩
 ·rw [hk] at h ⊢
  simp only [show ((3:Int) == 1)=false from rfl,show ((3:Int) == 2)=false from rfl,show ((3:Int) == 3)=true from rfl,cond_true,cond_false] at h ⊢
  rw [putThing] at h ⊢
  rcases thing_place (xs:=b.fThings) (id:=r.fThing.fId) with ⟨x,j,t1,t2,t3,t4,t5⟩ | ⟨t1,t2⟩
  ·rw [t1] at h ⊢
   simp only at h ⊢
   cases hg:grown x r.fThing
   ·rw [hg] at h;cases h
   ·have e:=(set_put b7 t2).1
    rw [Nat.sub_zero] at e
    have hrs:=rise_set hz b7 t2
    rw [Nat.sub_zero,e] at hrs
    exact ⟨bookOk_iff.2 ⟨b1,hd _,b3,by show (putAt b.fThings r.fThing).length≤8;rw [←e,List.length_set];exact b4,b5,by show 0≤b.fCount+1∧b.fCount+1≤10000;omega,hrs⟩,rfl,rfl⟩
  ·rw [t1] at h ⊢
   simp only at h ⊢
   cases hg:(r.fThing.fId != b.fLast+1 || decide ((b.fThings.length:Int)≥8))
   ·rw [Bool.or_eq_false_iff,bne_eq_false_iff_eq,decide_eq_false_iff_not] at hg
    have hid:r.fThing.fId≤1000:=by
     have:=hz
     simp only [thingOk,Bool.and_eq_true,inR_iff] at this
     omega
    exact ⟨bookOk_iff.2 ⟨b1,hd _,b3,by show (b.fThings++[r.fThing]).length≤8;rw [List.length_append,List.length_singleton];omega,by show 0≤r.fThing.fId∧r.fThing.fId≤1000;omega,by show 0≤b.fCount+1∧b.fCount+1≤10000;omega,rise_app hz (by omega) (by omega) b7⟩,rfl,rfl⟩
   ·rw [hg] at h;cases h
 ·rw [hk] at h ⊢
  simp only [show ((4:Int) == 1)=false from rfl,show ((4:Int) == 2)=false from rfl,show ((4:Int) == 3)=false from rfl,cond_false] at h ⊢
  cases ht:thingIn b.fThings r.fNum with
  | none=>rw [ht] at h;cases h
  | some x=>exact ⟨bookOk_iff.2 ⟨b1,hd _,b3,by show (without b.fThings r.fNum).length≤8;exact Nat.le_trans (List.length_filter_le ..) b4,b5,by show 0≤b.fCount+1∧b.fCount+1≤10000;omega,rise_without _ b7⟩,rfl,rfl⟩
theorem p_impl_follows (x y:SThing):impl_follows x y=some (grown x y):=by
 rw [impl_follows,E_impl_follows,grown,tl_bs,show decide (y.fNext≥x.fNext)=decide (x.fNext≤y.fNext) from rfl]
 cases (y.fKind == x.fKind) <;> cases (bs y.fValue == bs x.fValue) <;> cases y.fSigns <;> cases x.fSigns <;> cases y.fWraps <;> cases x.fWraps <;> cases decide (x.fNext≤y.fNext) <;> cases y.fHidden <;> cases x.fHidden <;> cases y.fFixed <;> cases x.fFixed <;> rfl
theorem p_impl_Book_thing {b:SBook} {x:SThing} (hb:bookOk b=true) (hx:x.fId≤1000):impl_Book_thing b x=some (match putThing b x with
 | some p=>(true,⟨b.fWord,b.fTries,p.1,p.2,b.fChain,b.fCount⟩)
 | none=>(false,b)):=by
 obtain ⟨b1,b2,b3,b4,b5,b6,b7⟩:=bookOk_iff.1 hb
 rw [impl_Book_thing,E_impl_Book_thing,p_impl_thingAt (by omega),Option.bind_some,putThing]
 rcases thing_place (xs:=b.fThings) (id:=x.fId) with ⟨o,j,t1,t2,t3,t4,t5⟩ | ⟨t1,t2⟩
 ·have hg:∀ z,b.fThings.getD j z=o:=fun z=>by rw [List.getD,t4];rfl
  have hs:=(set_put b7 t2).1
  rw [Nat.sub_zero] at hs
  rw [t1,t2]
  simp only [Int.toNat_natCast,hg,p_impl_follows,Option.bind_some,hs]
  rw [cond_t (by simp),cond_t (by simp;omega)]
  cases grown o x
  ·rfl
  ·rw [cond_f (by rfl),cond_t (by simp;omega)];rfl
 ·rw [t1,t2]
  simp only
  have hw:w64 (b.fLast+1)=b.fLast+1:=w64_id (by omega) (by omega)
  rw [cond_f (by rfl),hw]
  cases h1:(x.fId != b.fLast+1)
  ·by_cases h2:(b.fThings.length:Int)≥8
   ·rw [decide_eq_true h2];rfl
   ·rw [decide_eq_false h2,cond_false,cond_false,cond_t (by simp;omega)];rfl
  ·rfl
theorem p_impl_Enter {b:SBook} {r:SRec} (hb:b.fThings.length≤140737488351232) (hr:r.fNum≤9223372036854775807):impl_Enter b r=some (enterB b r):=by
 rw [impl_Enter,E_impl_Enter,p_impl_RecText hr,Option.bind_some,p_impl_BookOk hb,Option.bind_some,enterB]
 cases h1:bookOk b
 ·rfl
 cases h2:(recText r).2
 ·rfl
 by_cases h3:b.fCount≥10000
 ·rw [decide_eq_true h3];rfl
 obtain ⟨b1,b2,b3,b4,b5,b6,b7⟩:=bookOk_iff.1 h1
 have hz:=recText_size r
 have hw:w64 (b.fCount+1)=b.fCount+1:=w64_id (by omega) (by omega)
 have hdig:=p_impl_DigestOf (s:=b.fChain++(recText r).1) (by rw [ByteArray.size_append];omega)
 have hsz:decide (b.fChain.size+(recText r).1.size≤9223372036854775807)=true:=by rw [decide_eq_true_eq];omega
 simp only [decide_eq_false h3,Bool.not_true,Bool.or_self,cond_false,p_impl_copyBook (show b.fThings.length≤2932031007317 by omega),hdig,hsz,hw,Option.bind_some,cond_true]
 rcases recText_cases h2 with ⟨hk,hc⟩ | ⟨hk,hc⟩ | ⟨hk,hc⟩ | ⟨hk,hc⟩
 ·rw [hk];rfl
 ·rw [hk];rfl
 ·rw [hk]
  simp only [show ((3:Int) == 1)=false from rfl,show ((3:Int) == 2)=false from rfl,show ((3:Int) == 3)=true from rfl,cond_true,cond_false]
  rw [p_impl_Book_thing h1 (thingOk_kind hc).2.2.2.1,Option.bind_some]
  cases putThing b r.fThing with
  | none=>rfl
  | some p=>simp only [Bool.not_true,cond_false,hw]
 ·rw [hk]
  simp only [show ((4:Int) == 1)=false from rfl,show ((4:Int) == 2)=false from rfl,show ((4:Int) == 3)=false from rfl,show ((4:Int) == 4)=true from rfl,cond_true,cond_false]
  rw [p_impl_thingAt hb,Option.bind_some]
  rcases thing_place (xs:=b.fThings) (id:=r.fNum) with ⟨o,j,t1,t2,t3,t4,t5⟩ | ⟨t1,t2⟩
  ·have hs:=(set_put (x:=⟨r.fNum,0,false,false,false,false,⟨#[]⟩,0⟩) b7 t2).2
   rw [Nat.sub_zero] at hs
   simp only at hs
   rw [t1,t2]
   simp only [Int.toNat_natCast]
   have e:w64 ((j:Int)+1)=((j+1:Nat):Int):=by rw [w64_id (by omega) (by omega)];rfl
   simp only [e,Int.toNat_natCast,List.drop_zero,List.take_length,hs]
   rw [cond_f (by simp),cond_t (by simp;omega),cond_t (by rw [List.length_take,decide_eq_true_eq];omega),cond_t (by simp;omega),cond_t (by rw [List.length_take,List.length_drop,decide_eq_true_eq];omega)]
  ·rw [t1,t2];rfl
theorem frameT_small (t:ByteArray):(frameT t).1.size≤9100:=by
 rw [frameT]
 cases h:inR (t.size:Int) 1 9000
 ·exact Nat.zero_le _
 ·rw [inR_iff] at h
  have:=varL_len10 (n:=(t.size:Int)) (by omega)
  rw [cond_true,ofBytes_size,frameL,List.length_append,List.length_append,bs_len]
  have h4:(four (sumL (bs t))).length=4:=rfl
  omega
def zBox:SBox:=⟨⟨#[]⟩,false,⟨[]⟩,⟨⟨#[]⟩,0,[],0,⟨#[]⟩,0⟩,[],[],0⟩
theorem bookActs_small (k:ByteArray) (c:Int) (r:SRec):(bookActs k c r).1.length≤2∧∀ a ∈ (bookActs k c r).1,a.fText.size≤140737488351232:=by
 rw [bookActs]
 cases (recText r).2 && inR c 0 10000
 ·exact ⟨Nat.zero_le _,fun a h=>by cases h⟩
 ·refine ⟨Nat.le_refl _,fun a h=>?_⟩
  rw [cond_true] at h
  rcases List.mem_cons.1 h with rfl | h
  ·exact Nat.le_trans (frameT_small _) (by decide)
  ·rw [List.mem_singleton.1 h];exact Nat.zero_le _
theorem bookNew_ok:bookOk bookNew=true:=bookOk_iff.2 ⟨dig_size _,by rw [bookNew,ofBytes_size];rfl,(by decide:(0:Int)≤0∧(0:Int)≤3),(by decide:0≤8),(by decide:(0:Int)≤0∧(0:Int)≤1000),(by decide:(0:Int)≤0∧(0:Int)≤10000),rfl⟩
def recWord (w:ByteArray):SRec:=⟨1,dig w,0,⟨0,0,false,false,false,false,⟨#[]⟩,0⟩⟩
noncomputable def boxNewT (k w:ByteArray):SBox×Bool:=
 bif !((k.size:Int) == 32) || decide ((w.size:Int) > 20) then (zBox,false)
 else (⟨k,true,(actsT ⟨[]⟩ (bookActs k 0 (recWord w)).1 0).1,(enterB bookNew (recWord w)).1,[],[],0⟩,true)
theorem recWord_text (w:ByteArray):recText (recWord w)=(ofBytes [1]++dig w,true):=by
 rw [recText]
 simp only [recWord,show ((1:Int) == 1)=true from rfl,cond_true]
 rw [show (((dig w).size:Int) == 32)=true by rw [dig_size];rfl,show isZ (⟨0,0,false,false,false,false,⟨#[]⟩,0⟩:SThing)=true by simp [isZ]];rfl
theorem enterB_word (w:ByteArray):(enterB bookNew (recWord w)).2=true:=by
 rw [enterB,bookNew_ok,recWord_text,show decide (bookNew.fCount≥10000)=false from rfl];rfl
theorem acts_new {F:ByteArray} (h:F.size≤20000):(actsT ⟨[]⟩ [⟨1,bookName,F,⟨#[]⟩⟩,⟨2,bookName,⟨#[]⟩,⟨#[]⟩⟩] 0).2=2:=by
 have hz:((⟨#[]⟩:ByteArray)++F).size=F.size:=by rw [ba_append_size];exact Nat.zero_add _
 generalize hG:(⟨#[]⟩:ByteArray)++F=G at hz
 have ok:∀ k:Int,0≤k→k≤(G.size:Int)→diskOk ⟨[⟨bookName,G,k⟩]⟩=true:=fun k h1 h2=>by
  have h3:fOk ⟨bookName,G,k⟩=true:=fOk_iff.2 ⟨by show (1:Int)≤4∧(4:Int)≤8;omega,by show (G.size:Int)≤20000;omega,h1,h2⟩
  rw [diskOk,dRise,dRise,h3,less_nil (s:=bookName) (by decide)];rfl
 have a1:actT ⟨[]⟩ ⟨1,bookName,F,⟨#[]⟩⟩=(⟨[⟨bookName,G,0⟩]⟩,true):=by
  have:actT ⟨[]⟩ ⟨1,bookName,F,⟨#[]⟩⟩=doneD [⟨bookName,(⟨#[]⟩:ByteArray)++F,0⟩]:=by
   rw [actT];simp only [toList_self];rfl
  rw [this,hG,doneD,ok 0 (Int.le_refl 0) (by omega)];rfl
 have a2:actT ⟨[⟨bookName,G,0⟩]⟩ ⟨2,bookName,⟨#[]⟩,⟨#[]⟩⟩=(⟨[⟨bookName,G,(G.size:Int)⟩]⟩,true):=by
  have h2:placeF [⟨bookName,G,0⟩] bookName 0=some 0:=by rw [placeF,if_pos (toList_self _)]
  have hp:putL [⟨bookName,G,0⟩] ⟨bookName,G,(G.size:Int)⟩=[⟨bookName,G,(G.size:Int)⟩]:=by
   rw [putL,lowL,highL]
   simp only [List.filter_cons,less_irr,Bool.false_or,beq_self_eq_true,Bool.not_true,Bool.false_eq_true,if_false,List.filter_nil,List.nil_append,List.append_nil]
  have h0:actT ⟨[⟨bookName,G,0⟩]⟩ ⟨2,bookName,⟨#[]⟩,⟨#[]⟩⟩=actAt ⟨[⟨bookName,G,0⟩]⟩ ⟨2,bookName,⟨#[]⟩,⟨#[]⟩⟩ ⟨bookName,G,0⟩:=by
   rw [actT,ok 0 (Int.le_refl 0) (by omega)]
   simp only [h2,toList_self];rfl
  rw [h0]
  have:actAt ⟨[⟨bookName,G,0⟩]⟩ ⟨2,bookName,⟨#[]⟩,⟨#[]⟩⟩ ⟨bookName,G,0⟩=doneD (putL [⟨bookName,G,0⟩] ⟨bookName,G,(G.size:Int)⟩):=rfl
  rw [this,hp,doneD,ok _ (by omega) (Int.le_refl _)];rfl
 rw [actsT,a1]
 show (actsT ⟨[⟨bookName,G,0⟩]⟩ [⟨2,bookName,⟨#[]⟩,⟨#[]⟩⟩] 1).2=2
 rw [actsT,a2];rfl
noncomputable def boxEnterT (b:SBox) (r:SRec):Bool×SBox:=
 bif !(bookActs b.fKey b.fBook.fCount r).2 || (!(enterB b.fBook r).2 || decide ((actsT b.fDisk (bookActs b.fKey b.fBook.fCount r).1 0).2<((bookActs b.fKey b.fBook.fCount r).1.length:Int))) then (false,b)
 else (true,⟨b.fKey,b.fUp,(actsT b.fDisk (bookActs b.fKey b.fBook.fCount r).1 0).1,(enterB b.fBook r).1,b.fSessions,b.fLives,b.fOpened⟩)
theorem p_impl_Box_enter {b:SBox} {r:SRec} (hk:b.fKey.size≤900000000) (hd:b.fDisk.fFiles.length*40≤140737488351232) (hb:b.fBook.fThings.length≤140737488351232) (hr:r.fNum≤9223372036854775807):impl_Box_enter b r=some (boxEnterT b r):=by
 obtain ⟨h1,h2⟩:=bookActs_small b.fKey b.fBook.fCount r
 rw [impl_Box_enter,E_impl_Box_enter,p_impl_BookActs hk hr,Option.bind_some,p_impl_DoActs hd (by omega) h2,Option.bind_some,p_impl_Enter hb hr,Option.bind_some,boxEnterT]
 cases (bookActs b.fKey b.fBook.fCount r).2
 ·rfl
 cases (enterB b.fBook r).2
 ·rfl
 cases decide ((actsT b.fDisk (bookActs b.fKey b.fBook.fCount r).1 0).2<((bookActs b.fKey b.fBook.fCount r).1.length:Int)) <;> rfl
theorem p_impl_BoxNew (k w:ByteArray):impl_BoxNew k w=some (boxNewT k w):=by
 rw [impl_BoxNew,E_impl_BoxNew,boxNewT,bne]
 cases hz:(k.size:Int) == 32
 ·rfl
 rw [beq_iff_eq] at hz
 by_cases hw:(w.size:Int) > 20
 ·rw [decide_eq_true hw];rfl
 rw [decide_eq_false hw,p_impl_DigestOf (s:=w) (by omega),p_impl_BookNew]
 simp only [Option.bind_some,p_impl_Box_enter (b:=⟨k,true,⟨[]⟩,bookNew,[],[],0⟩) (r:=⟨1,dig w,0,⟨0,0,false,false,false,false,⟨#[]⟩,0⟩⟩) (show k.size≤900000000 by omega) (Nat.zero_le _) (Nat.zero_le _) (show (0:Int)≤9223372036854775807 by decide)]
 have hb:bookActs k 0 (recWord w)=([⟨1,bookName,(frameT (lockT k 1 (recText (recWord w)).1).1).1,⟨#[]⟩⟩,⟨2,bookName,⟨#[]⟩,⟨#[]⟩⟩],true):=by
  rw [bookActs,show (recText (recWord w)).2=true by rw [recWord_text]];rfl
 have h2:(actsT ⟨[]⟩ (bookActs k 0 (recWord w)).1 0).2=2:=by rw [hb];exact acts_new (Nat.le_trans (frameT_small _) (by decide))
 rw [boxEnterT]
 have e1:=enterB_word w
 have e2:(bookActs k 0 (recWord w)).2=true:=by rw [hb]
 have e3:(bookActs k 0 (recWord w)).1.length=2:=by rw [hb];rfl
 simp only [show (⟨1,dig w,0,⟨0,0,false,false,false,false,⟨#[]⟩,0⟩⟩:SRec)=recWord w from rfl,show bookNew.fCount=0 from rfl,e1,e2,e3,h2]
 rfl
def callOk (c:SCall):Bool:=inR c.fOp 1 13 && inR c.fSession 0 1000 && inR c.fThing 0 1000 && inR c.fKind 0 3 && decide ((c.fText.size:Int)≤1000)
theorem p_impl_CallOk (c:SCall):impl_CallOk c=some (callOk c):=by
 simp only [impl_CallOk,E_impl_CallOk,p_impl_in,Option.bind_some,callOk]
 cases inR c.fOp 1 13 <;> cases inR c.fSession 0 1000 <;> cases inR c.fThing 0 1000 <;> cases inR c.fKind 0 3 <;> rfl
def noCall (c:SCall):Bool:=(c.fOp == 0) && ((c.fSession == 0) && ((c.fThing == 0) && ((c.fKind == 0) && (((ByteArray.toList c.fText) == (ByteArray.toList (⟨#[]⟩:ByteArray))) && ((c.fHidden == false) && ((c.fFixed == false) && true))))))
def eventOk (e:SEvent):Bool:=decide ((e.fLeft.length:Int)≤30) && (callOk e.fCall || (e.fRise && noCall e.fCall))
theorem p_impl_EventOk (e:SEvent):impl_EventOk e=some (eventOk e):=by
 simp only [impl_EventOk,E_impl_EventOk,p_impl_CallOk,Option.bind_some,eventOk]
 show (bif callOk e.fCall then _ else bif e.fRise then bif noCall e.fCall then _ else _ else _)=_
 cases decide ((e.fLeft.length:Int)≤30) <;> cases callOk e.fCall <;> cases e.fRise <;> cases noCall e.fCall <;> rfl
def eqT (x y:SThing):Bool:=(x.fId == y.fId) && ((x.fKind == y.fKind) && ((x.fHidden == y.fHidden) && ((x.fFixed == y.fFixed) && ((x.fSigns == y.fSigns) && ((x.fWraps == y.fWraps) && (((ByteArray.toList x.fValue) == (ByteArray.toList y.fValue)) && ((x.fNext == y.fNext) && true)))))))
theorem eqT_e (x y:SThing):((x.fId == y.fId) && ((x.fKind == y.fKind) && ((x.fHidden == y.fHidden) && ((x.fFixed == y.fFixed) && ((x.fSigns == y.fSigns) && ((x.fWraps == y.fWraps) && (((ByteArray.toList x.fValue) == (ByteArray.toList y.fValue)) && ((x.fNext == y.fNext) && true))))))))=eqT x y:=rfl
theorem eqT_iff {x y:SThing}:eqT x y=true↔x=y:=by
 simp only [eqT,Bool.and_eq_true,beq_iff_eq]
 constructor
 ·rintro ⟨h1,h2,h3,h4,h5,h6,h7,h8,_⟩
  have h7':x.fValue=y.fValue:=by
   have:=toList_inj (s:=x.fValue) (t:=y.fValue)
   rw [h7] at this
   simpa using this
  cases x;cases y;simp_all
 ·rintro rfl;simp
def sameL:List SThing→List SThing→Bool
 | [],[]=>true
 | x::a,y::b=>eqT x y && sameL a b
 | _,_=>false
theorem sameL_iff:∀ {a b:List SThing},sameL a b=true↔a=b
 | [],[]=>by simp [sameL]
 | x::a,y::b=>by simp [sameL,eqT_iff,sameL_iff]
 | [],_::_=>by simp [sameL]
 | _::_,[]=>by simp [sameL]
theorem sameL_len {a b:List SThing} (h:a.length≠b.length):sameL a b=false:=by
 cases h2:sameL a b
 ·rfl
 ·rw [sameL_iff] at h2;subst h2;exact absurd rfl h
def sameB (a b:SBook):Bool:=(a.fWord.toList == b.fWord.toList) && ((a.fTries == b.fTries) && (sameL a.fThings b.fThings && ((a.fLast == b.fLast) && ((a.fChain.toList == b.fChain.toList) && (a.fCount == b.fCount)))))
theorem sameB_iff {a b:SBook}:sameB a b=true↔a=b:=by
 simp only [sameB,Bool.and_eq_true,toList_inj,decide_eq_true_eq,beq_iff_eq,sameL_iff]
 constructor
 ·rintro ⟨h1,h2,h3,h4,h5,h6⟩
  cases a;cases b;simp_all
 ·rintro rfl;simp
theorem p_impl_sameThings {a b:List SThing} (h0:a.length≤140737488351232):impl_sameThings a b=some (sameL a b):=by
 rw [impl_sameThings,E_impl_sameThings]
 by_cases hl:a.length=b.length
 ·have key:∀ (j i m:Nat),i+j=a.length→L_impl_sameThings (m+j+1) (.c0 a b (a.length:Int) (i:Int))=some (sameL (a.drop i) (b.drop i)):=by
   intro j
   induction j with
   | zero=>
    intro i m h
    obtain rfl:i=a.length:=by omega
    rw [L_impl_sameThings]
    simp only [B_impl_sameThings]
    rw [cond_f (by simp),List.drop_length,hl,List.drop_length];rfl
   | succ j ih=>
    intro i m h
    have hi:i<a.length:=by omega
    have hi2:i<b.length:=by omega
    have e:w64 ((i:Int)+1)=((i+1:Nat):Int):=by rw [w64_id (by omega) (by omega)];rfl
    rw [show m+(j+1)+1=(m+j+1)+1 by omega,L_impl_sameThings]
    simp only [B_impl_sameThings,e,Int.toNat_natCast,getD_at hi,getD_at hi2,eqT_e,ih (i+1) m (by omega)]
    rw [cond_t (by simp;omega),cond_t (by simp;omega),cond_t (by simp;omega),drop_at hi,drop_at hi2,sameL]
    cases eqT a[i] b[i] <;> rfl
  obtain ⟨m,hm⟩:∃ m,gas=m+a.length+1:=⟨gas - (a.length+1),by have:=gas_lt (n:=a.length+1) (by omega);omega⟩
  rw [cond_f (by simp;omega),hm]
  exact key a.length 0 m (by omega)
 ·rw [cond_t (by simp;omega),sameL_len hl]
theorem p_impl_sameBook {a b:SBook} (h0:a.fThings.length≤140737488351232):impl_sameBook a b=some (sameB a b):=by
 rw [impl_sameBook,E_impl_sameBook,p_impl_sameThings h0,sameB]
 cases a.fWord.toList == b.fWord.toList <;> cases a.fTries == b.fTries <;> cases sameL a.fThings b.fThings <;> cases a.fLast == b.fLast <;> cases a.fChain.toList == b.fChain.toList <;> rfl
theorem p_impl_FileAt {d:SDisk} {n:ByteArray} (h0:d.fFiles.length≤140737488351232):impl_FileAt d n=some (fileT d n):=by
 rw [impl_FileAt,E_impl_FileAt,p_impl_fileAt h0,Option.bind_some,atF,fileT]
 cases h:placeF d.fFiles n 0 with
 | none=>rfl
 | some j=>
  have:=placeF_lt h
  simp only [Int.toNat_natCast]
  rw [cond_f (by simp),cond_t (by simp;omega)];rfl
def pw (k:Nat):Int:=128 ^ k
theorem pw_zero:pw 0=1:=rfl
theorem pw_succ (k:Nat):pw (k+1)=pw k*128:=Int.pow_succ ..
theorem pw_cases {k:Nat} (h:k<5):pw k=1∨pw k=128∨pw k=16384∨pw k=2097152∨pw k=268435456:=by
 rcases (by omega:k=0∨k=1∨k=2∨k=3∨k=4) with rfl | rfl | rfl | rfl | rfl
 ·exact .inl rfl
 ·exact .inr (.inl rfl)
 ·exact .inr (.inr (.inl rfl))
 ·exact .inr (.inr (.inr (.inl rfl)))
 ·exact .inr (.inr (.inr (.inr rfl)))
def no3:Int×Int×Bool:=(0,0,false)
def RV (text:ByteArray) (a:Nat) (r:Int×Int×Bool):Prop:=r=no3∨∃ v:Int,∃ q:Nat,r=(v,((q:Nat):Int),true)∧0≤v∧v≤1000000000∧a<q∧q≤text.size
def At (text:ByteArray) (p:Nat) (l:List Int):Prop:=∃ rest,(bs text).drop p=l++rest
theorem At.left {text:ByteArray} {p:Nat} {l m:List Int} (h:At text p (l++m)):At text p l:=by
 obtain ⟨r,hr⟩:=h;exact ⟨m++r,by rw [hr,List.append_assoc]⟩
theorem At.right {text:ByteArray} {p:Nat} {l m:List Int} (h:At text p (l++m)):At text (p+l.length) m:=by
 obtain ⟨r,hr⟩:=h;exact ⟨r,by rw [←List.drop_drop,hr,List.append_assoc,List.drop_left]⟩
theorem At.size {text:ByteArray} {p:Nat} {l:List Int} (h:At text p l):l=[]∨p+l.length≤text.size:=by
 obtain ⟨r,hr⟩:=h
 have:=congrArg List.length hr
 rw [List.length_drop,bs_len,List.length_append] at this
 cases l with
 | nil=>exact .inl rfl
 | cons x xs=>right;simp only [List.length_cons] at this ⊢;omega
theorem At.head {text:ByteArray} {p:Nat} {x:Int} {l:List Int} (h:At text p (x::l)):p<text.size∧bt text (p:Int)=x:=by
 have hs:p+(x::l).length≤text.size:=by rcases h.size with h | h;exact absurd h (by simp);exact h
 simp only [List.length_cons] at hs
 have hp:p<text.size:=by omega
 refine ⟨hp,?_⟩
 rw [bt_eq hp]
 obtain ⟨r,hr⟩:=h
 have hl:p<(bs text).length:=by rw [bs_len];exact hp
 rw [List.drop_eq_getElem_cons hl] at hr
 injection hr
theorem At.tail {text:ByteArray} {p:Nat} {x:Int} {l:List Int} (h:At text p (x::l)):At text (p+1) l:=At.right (l:=[x]) h
theorem At.extract {text:ByteArray} {p:Nat} {l:List Int} (h:At text p l) (hl:∀ n,n ∈ l→0≤n∧n≤255):text.extract p (p+l.length)=ofBytes l:=by
 apply bs_inj
 rw [bs_extract,bs_ofBytes hl]
 obtain ⟨r,hr⟩:=h
 rw [List.drop_take,hr]
 simp
theorem varL_byte:∀ (n:Int),0≤n→∀ x,x ∈ varL n→0≤x∧x≤255:=by
 intro n
 induction n using varL.induct with
 | case1 n hn ih=>
  intro h x hx
  rw [varL,if_pos hn] at hx
  rcases List.mem_cons.1 hx with rfl | hx
  ·omega
  ·exact ih (by omega) x hx
 | case2 n hn=>
  intro h x hx
  rw [varL,if_neg hn,w8_id h (by omega)] at hx
  rw [List.mem_singleton] at hx
  omega
theorem varL_one {n:Int} (h:0≤n) (h2:n≤127):varL n=[n]:=by
 rw [varL,if_neg (by omega),w8_id h (by omega)]
theorem varL_len5 {n:Int} (h:n≤1000000000):(varL n).length≤5:=by
 have:=varL_len 5 n (by (have:(128:Int) ^ 5=34359738368:=by decide);omega)
 omega
theorem rv_nums {k:Nat} {n b:Int} (hk:k<5) (h0:0≤n) (h1:n<pw k) (hb:0≤b∧b≤255) :
  (b<128→b.tmod 128=b∧w64 (b*pw k)=b*pw k∧w64 (n+b*pw k)=n+b*pw k∧0≤n+b*pw k∧n+b*pw k<pw (k+1))∧
  (¬ b<128→b.tmod 128=b - 128∧w64 ((b - 128)*pw k)=(b - 128)*pw k∧w64 (n+(b - 128)*pw k)=n+(b - 128)*pw k∧0≤n+(b - 128)*pw k∧n+(b - 128)*pw k<pw (k+1))∧w64 (pw k*128)=pw (k+1):=by
 rw [pw_succ]
 have e:b.tmod 128=b % 128:=Int.tmod_eq_emod_of_nonneg hb.1
 refine ⟨fun h=>?_,fun h=>?_,?_⟩
 ·have hc:0≤b*pw k∧b*pw k≤34091302912∧b*pw k≤127*pw k:=by rcases pw_cases hk with e | e | e | e | e <;> rw [e] <;> omega
  have hp:pw k≤268435456:=by rcases pw_cases hk with e | e | e | e | e <;> rw [e] <;> omega
  exact ⟨by rw [e];omega,w64_id (by omega) (by omega),w64_id (by omega) (by omega),by omega,by omega⟩
 ·have hc:0≤(b - 128)*pw k∧(b - 128)*pw k≤34091302912∧(b - 128)*pw k≤127*pw k:=by rcases pw_cases hk with e | e | e | e | e <;> rw [e] <;> omega
  have hp:pw k≤268435456:=by rcases pw_cases hk with e | e | e | e | e <;> rw [e] <;> omega
  exact ⟨by rw [e];omega,w64_id (by omega) (by omega),w64_id (by omega) (by omega),by omega,by omega⟩
 ·rcases pw_cases hk with e | e | e | e | e <;> rw [e,w64_id (by omega) (by omega)]
theorem pow7 {k:Nat} (h:k<5):(2:Int) ^ (Min.min (w64 (7*(k:Int))).toNat (IntKind.bits IntKind.i64))=pw k∧w64 (7*(k:Int))=7*(k:Int):=by
 refine ⟨?_,w64_id (by omega) (by omega)⟩
 rcases (by omega:k=0∨k=1∨k=2∨k=3∨k=4) with rfl | rfl | rfl | rfl | rfl <;> kernel_rfl
theorem rvI_stop {text:ByteArray} {a k m:Nat} {n:Int} (hs:text.size≤140737488351232) (ha:a≤text.size) (hk:k≤5) (hi:text.size≤a+k∨5≤k):L_impl_ReadVar (m+1) (.c0 text a n k)=some no3:=by
 simp only [L_impl_ReadVar,B_impl_ReadVar]
 by_cases h:k<5
 ·rw [show decide ((k:Int)<5)=true from decide_eq_true (by omega),w64_id (n:=(a:Int)+k) (by omega) (by omega),show decide ((a:Int)+k<(text.size:Int))=false from decide_eq_false (by omega)]
  rfl
 ·rw [show decide ((k:Int)<5)=false from decide_eq_false (by omega)]
  rfl
theorem rvI_step {text:ByteArray} {a k m:Nat} {n b:Int} (hs:text.size≤140737488351232) (hk:k<5) (hi:a+k<text.size) (h0:0≤n) (h1:n<pw k) (hb:bt text ((a+k:Nat):Int)=b) :
  L_impl_ReadVar (m+1) (.c0 text a n k)=if b<128 then (if b=0∧0<k∨n+b*pw k > 1000000000 then some no3 else some (n+b*pw k,((a+k+1:Nat):Int),true)) else L_impl_ReadVar m (.c0 text a (n+(b - 128)*pw k) ((k+1:Nat):Int)):=by
 have hb':=bt_byte text ((a+k:Nat):Int)
 rw [hb] at hb'
 obtain ⟨n1,n2,n3⟩:=rv_nums hk h0 h1 hb'
 obtain ⟨p1,p2⟩:=pow7 hk
 rw [p2] at p1
 have ha:w64 ((a:Int)+(k:Int))=((a+k:Nat):Int):=by rw [w64_id (by omega) (by omega)];omega
 have hw:w64 (((a+k:Nat):Int)+1)=((a+k+1:Nat):Int):=by rw [w64_id (by omega) (by omega)];omega
 have hw2:w64 ((k:Int)+1)=((k+1:Nat):Int):=by rw [w64_id (by omega) (by omega)];omega
 simp only [L_impl_ReadVar,B_impl_ReadVar,ha,hb,w64_id (n:=b) (by omega) (by omega),p2,p1,hw,hw2]
 rw [show decide (((a+k:Nat):Int)<(text.size:Int))=true from decide_eq_true (by omega),show decide ((k:Int)<5)=true from decide_eq_true (by omega),show decide ((0:Int)≤7*(k:Int))=true from decide_eq_true (by omega),
  show decide ((0:Int)≤((a+k:Nat):Int))=true from decide_eq_true (by omega)]
 simp only [Bool.and_self,cond_true]
 by_cases h:b<128
 ·obtain ⟨e1,e2,e3,e4,_⟩:=n1 h
  rw [if_pos h,e1,e2,e3,show decide (b<128)=true from decide_eq_true h]
  simp only [cond_true]
  by_cases hz:b=0
  ·rw [show (b == 0)=true from beq_iff_eq.2 hz]
   by_cases hk0:0<k
   ·rw [if_pos (.inl ⟨hz,hk0⟩),show decide ((k:Int) > 0)=true from decide_eq_true (by omega)];rfl
   ·rw [show decide ((k:Int) > 0)=false from decide_eq_false (by omega)]
    by_cases h2:n+b*pw k > 1000000000
    ·rw [if_pos (.inr h2),show decide (n+b*pw k > 1000000000)=true from decide_eq_true h2];rfl
    ·rw [if_neg (by omega),show decide (n+b*pw k > 1000000000)=false from decide_eq_false h2];rfl
  ·rw [show (b == 0)=false from beq_eq_false_iff_ne.2 hz]
   by_cases h2:n+b*pw k > 1000000000
   ·rw [if_pos (.inr h2),show decide (n+b*pw k > 1000000000)=true from decide_eq_true h2];rfl
   ·rw [if_neg (by omega),show decide (n+b*pw k > 1000000000)=false from decide_eq_false h2];rfl
 ·obtain ⟨e1,e2,e3,_,_⟩:=n2 h
  rw [if_neg h,e1,e2,e3,show decide (b<128)=false from decide_eq_false h]
  rfl
theorem rvI_any {text:ByteArray} {a:Nat} (hs:text.size≤140737488351232) (ha:a≤text.size):∀ j k m n,k+j=5→j<m→0≤n→n<pw k→∃ r,L_impl_ReadVar m (.c0 text a n k)=some r∧RV text a r:=by
 intro j
 induction j with
 | zero=>
  intro k m n hk hm _ _
  obtain ⟨m,rfl⟩:∃ q,m=q+1:=⟨m - 1,by omega⟩
  exact ⟨_,rvI_stop hs ha (by omega) (.inr (by omega)),.inl rfl⟩
 | succ j ih=>
  intro k m n hk hm h0 h1
  obtain ⟨m,rfl⟩:∃ q,m=q+1:=⟨m - 1,by omega⟩
  by_cases hi:a+k<text.size
  ·have hb:=bt_byte text ((a+k:Nat):Int)
   generalize hbe:bt text ((a+k:Nat):Int)=b at hb
   obtain ⟨n1,n2,_⟩:=rv_nums (b:=b) (by omega:k<5) h0 h1 hb
   rw [rvI_step hs (by omega) hi h0 h1 hbe]
   split
   ·rename_i h
    split
    ·exact ⟨_,rfl,.inl rfl⟩
    ·exact ⟨_,rfl,.inr ⟨_,_,rfl,(n1 h).2.2.2.1,by omega,by omega,by omega⟩⟩
   ·rename_i h
    obtain ⟨_,_,_,e4,e5⟩:=n2 h
    exact ih (k+1) m _ (by omega) (by omega) e4 e5
  ·exact ⟨_,rvI_stop hs ha (by omega) (.inl (by omega)),.inl rfl⟩
theorem rvI_is {text:ByteArray} {a:Nat} {V:Int} (hs:text.size≤140737488351232) (hV:V≤1000000000) (hA:At text a (varL V)):∀ U k m n,varL U=(varL V).drop k→0≤U→(0<k→0<U)→n+pw k*U=V→0≤n→n<pw k→5<m+k→L_impl_ReadVar m (.c0 text a n k)=some (V,((a+(varL V).length:Nat):Int),true):=by
 have h5:=varL_len5 hV
 intro U
 induction U using varL.induct with
 | case1 U hU ih=>
  intro k m n e1 u0 uz e2 h0 h1 hm
  have hl:=congrArg List.length e1
  rw [List.length_drop] at hl
  have hp:=varL_pos U
  have hk:k<5:=by omega
  obtain ⟨m,rfl⟩:∃ q,m=q+1:=⟨m - 1,by omega⟩
  have hA':At text (a+k) (varL U):=by
   have:At text a ((varL V).take k++(varL V).drop k):=by rw [List.take_append_drop];exact hA
   have:=this.right
   rw [List.length_take,Nat.min_eq_left (by omega),←e1] at this
   exact this
  have e3:=e1
  rw [varL,if_pos hU] at hA' e3
  obtain ⟨hi,hb⟩:=hA'.head
  obtain ⟨n1,n2,_⟩:=rv_nums (b:=128+U % 128) hk h0 h1 (by omega)
  obtain ⟨_,_,_,e4,e5⟩:=n2 (by omega)
  rw [rvI_step hs hk hi h0 h1 hb,if_neg (by omega)]
  refine ih (k+1) m _ ?_ (by omega) (fun _=>by omega) ?_ e4 e5 (by omega)
  ·rw [←List.drop_drop,←e3];rfl
  ·rw [pw_succ]
   rcases pw_cases hk with e | e | e | e | e <;> rw [e] at e2 ⊢ <;> omega
 | case2 U hU=>
  intro k m n e1 u0 uz e2 h0 h1 hm
  have hl:=congrArg List.length e1
  rw [List.length_drop] at hl
  have hp:=varL_pos U
  have hk:k<5:=by omega
  obtain ⟨m,rfl⟩:∃ q,m=q+1:=⟨m - 1,by omega⟩
  have hA':At text (a+k) (varL U):=by
   have:At text a ((varL V).take k++(varL V).drop k):=by rw [List.take_append_drop];exact hA
   have:=this.right
   rw [List.length_take,Nat.min_eq_left (by omega),←e1] at this
   exact this
  rw [varL_one u0 (by omega)] at hA' hl
  simp only [List.length_singleton] at hl
  obtain ⟨hi,hb⟩:=hA'.head
  have e3:n+U*pw k=V:=by rw [Int.mul_comm];exact e2
  have e4:a+k+1=a+(varL V).length:=by omega
  rw [rvI_step hs hk hi h0 h1 hb,if_pos (by omega),e3,if_neg (by omega),e4]
theorem p_impl_ReadVar {text:ByteArray} {a:Nat} (hs:text.size≤140737488351232) (ha:a≤text.size):∃ r,impl_ReadVar text a=some r∧RV text a r:=by
 simp only [impl_ReadVar,E_impl_ReadVar,p_impl_in,Option.bind_some]
 rw [show inR (a:Int) 0 (text.size:Int)=true from inR_iff.2 ⟨by omega,by omega⟩]
 exact rvI_any hs ha 5 0 gas 0 rfl (gas_lt (by omega)) (by omega) (by rw [pw_zero];omega)
theorem p_impl_ReadVar_is {text:ByteArray} {a:Nat} {V:Int} (hs:text.size≤140737488351232) (hV0:0≤V) (hV:V≤1000000000) (hA:At text a (varL V)):impl_ReadVar text a=some (V,((a+(varL V).length:Nat):Int),true):=by
 have ha:a+(varL V).length≤text.size:=by
  rcases hA.size with h | h
  ·have:=varL_pos V;rw [h] at this;simp at this
  ·exact h
 simp only [impl_ReadVar,E_impl_ReadVar,p_impl_in,Option.bind_some]
 rw [show inR (a:Int) 0 (text.size:Int)=true from inR_iff.2 ⟨by omega,by omega⟩]
 exact rvI_is hs hV hA V 0 gas 0 (by simp) hV0 (fun h=>absurd h (Nat.lt_irrefl 0)) (by rw [pw_zero];omega) (by omega) (by rw [pw_zero];omega) (by have:=gas_lt (n:=5) (by omega);omega)
def RVx (text:ByteArray) (a:Nat) (r:Int×Int×Bool):Prop:=r=no3∨∃ v:Int,r=(v,((a+(varL v).length:Nat):Int),true)∧0≤v∧v≤1000000000∧At text a (varL v)
theorem at_cons {text:ByteArray} {p:Nat} (hp:p<text.size) {l:List Int} (h:At text (p+1) l):At text p (bt text (p:Int)::l):=by
 obtain ⟨r,hr⟩:=h
 refine ⟨r,?_⟩
 rw [drop_at (by rw [bs_len];exact hp),hr,bt_eq hp]
 rfl
theorem rvI_any2 {text:ByteArray} {a:Nat} (hs:text.size≤140737488351232) (ha:a≤text.size):∀ j k m n,k+j=5→j<m→0≤n→n<pw k→∃ r,L_impl_ReadVar m (.c0 text a n k)=some r∧(r=no3∨∃ U:Int,r=(n+pw k*U,((a+k+(varL U).length:Nat):Int),true)∧0≤U∧(0<k→0<U)∧n+pw k*U≤1000000000∧At text (a+k) (varL U)):=by
 intro j
 induction j with
 | zero=>
  intro k m n hk hm _ _
  obtain ⟨m,rfl⟩:∃ q,m=q+1:=⟨m - 1,by omega⟩
  exact ⟨_,rvI_stop hs ha (by omega) (.inr (by omega)),.inl rfl⟩
 | succ j ih=>
  intro k m n hk hm h0 h1
  obtain ⟨m,rfl⟩:∃ q,m=q+1:=⟨m - 1,by omega⟩
  by_cases hi:a+k<text.size
  ·have hb:=bt_byte text ((a+k:Nat):Int)
   generalize hbe:bt text ((a+k:Nat):Int)=b at hb
   obtain ⟨n1,n2,_⟩:=rv_nums (b:=b) (by omega:k<5) h0 h1 hb
   rw [rvI_step hs (by omega) hi h0 h1 hbe]
   split
   ·rename_i h
    split
    ·exact ⟨_,rfl,.inl rfl⟩
    ·rename_i h2
     have e1:=varL_one hb.1 (by omega:b≤127)
     refine ⟨_,rfl,.inr ⟨b,by rw [e1,Int.mul_comm b (pw k)];rfl,hb.1,fun hk0=>by omega,by rw [Int.mul_comm (pw k) b];omega,?_⟩⟩
     rw [e1,←hbe]
     exact at_cons hi ⟨_,rfl⟩
   ·rename_i h
    obtain ⟨_,_,_,e4,e5⟩:=n2 h
    obtain ⟨r,hr,hR⟩:=ih (k+1) m _ (by omega) (by omega) e4 e5
    refine ⟨r,hr,?_⟩
    rcases hR with hR | ⟨U,hR,hU,hU0,hUb,hA⟩
    ·exact .inl hR
    ·have hU1:=hU0 (by omega)
     have e6:varL (b - 128+128*U)=b::varL U:=by
      rw [varL,if_pos (by omega),show (b - 128+128*U) / 128=U by omega,show 128+(b - 128+128*U) % 128=b by omega]
     have e7:n+(b - 128)*pw k+pw (k+1)*U=n+pw k*(b - 128+128*U):=by
      rw [pw_succ,Int.mul_add,Int.mul_comm (b - 128) (pw k),←Int.mul_assoc];omega
     refine .inr ⟨b - 128+128*U,?_,by omega,fun _=>by omega,by rw [←e7];exact hUb,?_⟩
     ·rw [hR,e6,e7,List.length_cons,show a+(k+1)+(varL U).length=a+k+((varL U).length+1) by omega]
     ·rw [e6,←hbe]
      exact at_cons hi hA
  ·exact ⟨_,rvI_stop hs ha (by omega) (.inl (by omega)),.inl rfl⟩
theorem p_impl_ReadVar2 {text:ByteArray} {a:Nat} (hs:text.size≤140737488351232) (ha:a≤text.size):∃ r,impl_ReadVar text a=some r∧RVx text a r:=by
 simp only [impl_ReadVar,E_impl_ReadVar,p_impl_in,Option.bind_some]
 rw [show inR (a:Int) 0 (text.size:Int)=true from inR_iff.2 ⟨by omega,by omega⟩]
 obtain ⟨r,hr,hR⟩:=rvI_any2 hs ha 5 0 gas 0 rfl (gas_lt (by omega)) (by omega) (by rw [pw_zero];omega)
 refine ⟨r,hr,?_⟩
 rcases hR with hR | ⟨U,hR,hU,_,hUb,hA⟩
 ·exact .inl hR
 ·rw [pw_zero,Int.zero_add,Int.one_mul] at hR hUb
  exact .inr ⟨U,hR,hU,hUb,hA⟩
theorem varL_two {n:Int} (h:0≤n):(n≤127∧varL n=[n])∨(127<n∧varL n=(128+n % 128)::varL (n / 128)):=by
 by_cases c:n≤127
 ·exact .inl ⟨c,varL_one h c⟩
 ·exact .inr ⟨by omega,by rw [varL,if_pos (by omega)]⟩
theorem varL_free:∀ (n:Nat) (v w:Int) (r s:List Int),v.toNat≤n→0≤v→0≤w→varL v++r=varL w++s→v=w:=by
 intro n
 induction n with
 | zero=>
  intro v w r s hn hv hw h
  have hv0:v=0:=by omega
  subst hv0
  rw [varL_one (n:=0) (by omega) (by omega)] at h
  rcases varL_two hw with ⟨h1,h2⟩ | ⟨h1,h2⟩ <;> rw [h2] at h <;> injection h with h3 h4 <;> omega
 | succ n ih=>
  intro v w r s hn hv hw h
  rcases varL_two hv with ⟨g1,g2⟩ | ⟨g1,g2⟩ <;> rcases varL_two hw with ⟨h1,h2⟩ | ⟨h1,h2⟩ <;> rw [g2,h2] at h <;> injection h with h3 h4
  ·omega
  ·omega
  ·have:=ih (v / 128) (w / 128) r s (by omega) (by omega) (by omega) h4
   omega
theorem at_free {text:ByteArray} {a:Nat} {v w:Int} (hv:0≤v) (hw:0≤w) (h:At text a (varL v)) (k:At text a (varL w)):v=w:=by
 obtain ⟨r,hr⟩:=h
 obtain ⟨s,hs⟩:=k
 exact varL_free v.toNat v w r s (Nat.le_refl _) hv hw (hr.symm.trans hs)
noncomputable def rdVar (text:ByteArray) (a:Nat):Int×Int×Bool:=@dite _ (∃ v:Int,0≤v∧v≤1000000000∧At text a (varL v)) (Classical.propDecidable _) (fun h=>(h.choose,((a+(varL h.choose).length:Nat):Int),true)) (fun _=>no3)
theorem rdVar_of {text:ByteArray} {a:Nat} {o:Option (Int×Int×Bool)} (h1:∃ r,o=some r∧RVx text a r) (h2:∀ V:Int,0≤V→V≤1000000000→At text a (varL V)→o=some (V,((a+(varL V).length:Nat):Int),true)):o=some (rdVar text a):=by
 unfold rdVar
 split
 ·rename_i h
  obtain ⟨k1,k2,k3⟩:=h.choose_spec
  exact h2 _ k1 k2 k3
 ·rename_i h
  obtain ⟨r,hr,rfl | ⟨v,_,k1,k2,k3⟩⟩:=h1
  ·exact hr
  ·exact absurd ⟨v,k1,k2,k3⟩ h
theorem e_impl_rdVar {text:ByteArray} {a:Nat} (hs:text.size≤140737488351232) (ha:a≤text.size):impl_ReadVar text a=some (rdVar text a):=rdVar_of (p_impl_ReadVar2 hs ha) (fun V h0 h1 hA=>p_impl_ReadVar_is hs h0 h1 hA)
theorem rdVar_x {text:ByteArray} {a:Nat} (hs:text.size≤140737488351232) (ha:a≤text.size):RVx text a (rdVar text a):=by
 unfold rdVar
 split
 ·rename_i h
  obtain ⟨k1,k2,k3⟩:=h.choose_spec
  exact .inr ⟨_,rfl,k1,k2,k3⟩
 ·exact .inl rfl
theorem rdVar_is {text:ByteArray} {a:Nat} {V:Int} (hs:text.size≤140737488351232) (hV0:0≤V) (hV:V≤1000000000) (hA:At text a (varL V)):rdVar text a=(V,((a+(varL V).length:Nat):Int),true):=by
 unfold rdVar
 split
 ·rename_i h
  obtain ⟨k1,k2,k3⟩:=h.choose_spec
  rw [at_free k1 hV0 k3 hA]
 ·rename_i h
  exact absurd ⟨V,hV0,hV,hA⟩ h
noncomputable def nextF (file:ByteArray) (a:Nat):Option (ByteArray×Nat):=
 bif (rdVar file a).2.2 && (inR (rdVar file a).1 1 9000 && (decide ((rdVar file a).1≤(file.size:Int) - (rdVar file a).2.1 - 4) &&
  (bs (file.extract (rdVar file a).2.1.toNat ((rdVar file a).2.1+4).toNat) == four (sumL (bs (file.extract ((rdVar file a).2.1+4).toNat ((rdVar file a).2.1+4+(rdVar file a).1).toNat))))))
 then some (file.extract ((rdVar file a).2.1+4).toNat ((rdVar file a).2.1+4+(rdVar file a).1).toNat,((rdVar file a).2.1+4+(rdVar file a).1).toNat) else none
noncomputable def unf:Nat→ByteArray→Nat→List ByteArray×Nat
 | 0,_,a=>([],a)
 | j+1,file,a=>match nextF file a with
  | none=>([],a)
  | some p=>(p.1::(unf j file p.2).1,(unf j file p.2).2)
noncomputable def unfT (file:ByteArray):List ByteArray×Int:=bif decide ((file.size:Int) > 20000) then ([],0) else ((unf (file.size+1) file 0).1,((unf (file.size+1) file 0).2:Int))
theorem nextF_x {file:ByteArray} {a:Nat} (hs:file.size≤140737488351232) (ha:a≤file.size):(nextF file a=none)∨∃ (v:Int) (q:Nat),rdVar file a=(v,(q:Int),true)∧a<q∧q=a+(varL v).length∧1≤v∧v≤9000∧q+4+v.toNat≤file.size∧At file a (varL v)∧
  bs (file.extract q (q+4))=four (sumL (bs (file.extract (q+4) (q+4+v.toNat))))∧nextF file a=some (file.extract (q+4) (q+4+v.toNat),q+4+v.toNat):=by
 rw [nextF]
 rcases rdVar_x hs ha with h | ⟨v,h,h0,h1,hA⟩
 ·left;rw [h];rfl
 ·rw [h]
  have hp:=varL_pos v
  have hsz:=hA.size.resolve_left (by intro h;rw [h] at hp;simp at hp)
  generalize hq:a+(varL v).length=q at hsz
  simp only [Bool.true_and]
  cases h2:inR v 1 9000
  ·left;rfl
  ·rw [inR_iff] at h2
   by_cases h3:v≤(file.size:Int) - (q:Int) - 4
   ·rw [decide_eq_true h3]
    have e1:((q:Int)).toNat=q:=Int.toNat_natCast q
    have e2:((q:Int)+4).toNat=q+4:=by omega
    have e3:((q:Int)+4+v).toNat=q+4+v.toNat:=by omega
    rw [e1,e2,e3]
    cases h4:(bs (file.extract q (q+4)) == four (sumL (bs (file.extract (q+4) (q+4+v.toNat)))))
    ·left;rfl
    ·right
     exact ⟨v,q,rfl,by omega,hq.symm,by omega,by omega,by omega,hA,beq_iff_eq.1 h4,rfl⟩
   ·left;rw [decide_eq_false h3];rfl
theorem p_impl_Unframe {f:ByteArray} (hf:f.size≤140737488351232):impl_Unframe f=some (unfT f):=by
 rw [impl_Unframe,E_impl_Unframe,unfT]
 by_cases h0:20000<f.size
 ·rw [cond_t (by simp;omega),cond_t (by simp;omega)]
 ·rw [cond_f (by simp;omega),cond_f (by simp;omega)]
  have key:∀ (j a m:Nat) (out:List ByteArray),a≤f.size→f.size<a+j→out.length≤a→L_impl_Unframe (m+j+1) (.c0 f (a:Int) out)=some (out++(unf j f a).1,((unf j f a).2:Int)):=by
   intro j
   induction j with
   | zero=>intro a m out ha hj;omega
   | succ j ih=>
    intro a m out ha hj ho
    rw [show m+(j+1)+1=(m+j+1)+1 by omega,L_impl_Unframe]
    simp only [B_impl_Unframe,unf]
    rw [e_impl_rdVar hf ha,Option.bind_some]
    rcases rdVar_x hf ha with h | ⟨v,h,hv0,hv1,hA⟩
    ·rw [show nextF f a=none by rw [nextF,h];rfl,h]
     rw [List.append_nil];rfl
    ·have hp:=varL_pos v
     have hsz:=hA.size.resolve_left (by intro h;rw [h] at hp;simp at hp)
     obtain ⟨R,hR⟩:∃ R,R=nextF f a:=⟨_,rfl⟩
     have hn0:=hR
     rw [nextF,h] at hn0
     rw [h]
     generalize hq:a+(varL v).length=q at hsz hn0
     simp only [Bool.not_true,cond_false,p_impl_in,Option.bind_some]
     cases hr:inR v 1 9000
     ·rw [hr] at hn0
      have hn1:R=none:=hn0
      rw [←hR,hn1,List.append_nil];rfl
     ·rw [hr] at hn0
      simp only [Bool.not_true,cond_false,Bool.true_and] at hn0 ⊢
      rw [w64_id (n:=(f.size:Int) - (q:Int)) (by omega) (by omega),w64_id (n:=(f.size:Int) - (q:Int) - 4) (by omega) (by omega),w64_id (n:=(q:Int)+4) (by omega) (by omega),w64_id (n:=(q:Int)+4+v) (by omega) (by omega)]
      by_cases h3:v > (f.size:Int) - (q:Int) - 4
      ·rw [cond_t (by simp;omega)]
       rw [decide_eq_false (by omega:¬ v≤(f.size:Int) - (q:Int) - 4)] at hn0
       have hn1:R=none:=hn0
       rw [←hR,hn1,List.append_nil]
      ·have e2:((q:Int)+4).toNat=q+4:=by omega
       have e3:((q:Int)+4+v).toNat=q+4+v.toNat:=by omega
       have hxs:(f.extract (q+4) (q+4+v.toNat)).size=v.toNat:=by rw [ByteArray.size_extract];omega
       rw [decide_eq_true (by omega:v≤(f.size:Int) - (q:Int) - 4),e2,e3,Int.toNat_natCast,Bool.true_and] at hn0
       rw [cond_f (by simp;omega),cond_t (by simp;omega),cond_t (by simp;omega),e2,e3,Int.toNat_natCast,p_impl_SumOf (by omega),Option.bind_some,p_impl_fourBytes (sumL_r _),Option.bind_some,tl_bs,bs_ofBytes (four_byt (sumL_r _))]
       cases hc:(bs (f.extract q (q+4)) == four (sumL (bs (f.extract (q+4) (q+4+v.toNat)))))
       ·rw [hc] at hn0
        have hn1:R=none:=hn0
        rw [←hR,hn1,List.append_nil];rfl
       ·rw [hc] at hn0
        have hn1:R=some (f.extract (q+4) (q+4+v.toNat),q+4+v.toNat):=hn0
        rw [←hR,hn1,cond_f (by rfl),cond_t (by simp;omega),show (q:Int)+4+v=((q+4+v.toNat:Nat):Int) by omega,ih (q+4+v.toNat) m _ (by omega) (by omega) (by simp;omega)]
        simp
  obtain ⟨m,hm⟩:∃ m,gas=m+(f.size+1)+1:=⟨gas - (f.size+2),by have:=gas_lt (n:=f.size+2) (by omega);omega⟩
  rw [hm,show (0:Int)=((0:Nat):Int) from rfl,key (f.size+1) 0 m [] (by omega) (by omega) (Nat.le_refl _)]
  rfl
theorem open_ex (t:ByteArray) {n:Nat} (h:t.size=n+16):bs (t.extract 0 n)=(bs t).take (t.size - 16)∧bs (t.extract n t.size)=(bs t).drop (t.size - 16):=by
 rw [bs_extract,bs_extract,List.take_of_length_le (by rw [bs_len];omega:(bs t).length≤t.size),h,Nat.add_sub_cancel]
 exact ⟨rfl,rfl⟩
theorem p_impl_OpenText {k t:ByteArray} {num:Int} (hk:k.size≤900000000) (ht:t.size≤800000000):impl_OpenText k num t=some (openT k num t):=by
 rw [impl_OpenText,E_impl_OpenText,openT]
 have hw:w64 ((t.size:Int) - 16)=(t.size:Int) - 16:=w64_id (by omega) (by omega)
 rw [hw]
 by_cases h:t.size<16
 ·rw [cond_t (by simp;omega),cond_t (by simp;omega)]
 ·obtain ⟨n,hn⟩:∃ n,t.size=n+16:=⟨t.size - 16,by omega⟩
  obtain ⟨e1,e2⟩:=open_ex t hn
  have hz:(t.size:Int) - 16=(n:Int):=by omega
  have hb:=bs_len t
  rw [cond_f (by simp;omega),p_impl_Mask hk,Option.bind_some,maskT,hz,show decide ((t.size:Int)<16)=false by simp;omega,Bool.false_or]
  cases hm:maskOk num n
  ·rfl
  ·have h':=maskOk_iff.1 hm
   have hml:=maskL_len (bs k) (varL num) n
   have hes:(t.extract 0 n).size=n:=by simp;omega
   rw [Bool.not_true,cond_false,cond_true,cond_f (by rfl),Int.toNat_natCast,cond_t (by simp;omega),p_impl_tag hk h'.1 (by omega),Option.bind_some,cond_t (by simp;omega),tl_bs,bs_ofBytes (tagL_byt _ _ _),e1,e2]
   cases hc:(tagL (bs k) num ((bs t).take (t.size - 16)) == (bs t).drop (t.size - 16))
   ·rfl
   ·rw [Bool.not_true,cond_false,cond_t (by simp;omega),p_impl_both (by omega) (by rw [ofBytes_size,hml];omega),Option.bind_some,bs_ofBytes (maskL_byt _ _ _),e1,cond_true,show t.size - 16=n by omega]
def FldOk (text:ByteArray) (c:SFields):Prop:=∃ p:Nat,∃ b:Bool,c=⟨text,(p:Int),b⟩∧p≤text.size
theorem p_impl_fields_num {text:ByteArray} {c:SFields} (hs:text.size≤140737488351232) (h:FldOk text c):∃ v c',impl_fields_num c=some (v,c')∧FldOk text c':=by
 obtain ⟨p,b,rfl,hp⟩:=h
 obtain ⟨r,hr,hR⟩:=p_impl_ReadVar hs hp
 simp only [impl_fields_num,E_impl_fields_num,hr,Option.bind_some]
 rcases hR with rfl | ⟨v,q,rfl,h0,h1,_,h3⟩
 ·exact ⟨_,_,rfl,⟨p,true,rfl,hp⟩⟩
 ·exact ⟨_,_,rfl,⟨q,b,rfl,h3⟩⟩
theorem p_impl_fields_num_is {text:ByteArray} {a:Nat} {V:Int} (hs:text.size≤140737488351232) (hV0:0≤V) (hV:V≤1000000000) (hA:At text a (varL V)):impl_fields_num ⟨text,(a:Int),false⟩=some (V,⟨text,((a+(varL V).length:Nat):Int),false⟩):=by
 simp only [impl_fields_num,E_impl_fields_num,p_impl_ReadVar_is hs hV0 hV hA,Option.bind_some]
 rfl
theorem p_impl_ReadShort {text:ByteArray} {a:Nat} (hs:text.size≤140737488351232) (ha:a≤text.size):∃ s q ok,impl_ReadShort text a=some (s,q,ok)∧(ok=true→∃ p:Nat,q=(p:Int)∧p≤text.size):=by
 obtain ⟨r,hr,hR⟩:=p_impl_ReadVar hs ha
 simp only [impl_ReadShort,E_impl_ReadShort,hr,Option.bind_some]
 rcases hR with rfl | ⟨v,q,rfl,h0,h1,h2,h3⟩
 ·exact ⟨_,_,_,rfl,fun h=>by cases h⟩
 ·rw [w64_id (n:=(text.size:Int) - (q:Int)) (by omega) (by omega),w64_id (n:=(q:Int)+v) (by omega) (by omega)]
  simp only [Bool.not_true,cond_false]
  cases decide (v > 20000)
  ·by_cases hv:v > (text.size:Int) - (q:Int)
   ·rw [decide_eq_true hv];exact ⟨_,_,_,rfl,fun h=>by cases h⟩
   ·rw [decide_eq_false hv,show decide ((0:Int)≤(q:Int))=true from decide_eq_true (by omega),show decide ((q:Int)≤q+v)=true from decide_eq_true (by omega),show decide ((q:Int)+v≤(text.size:Int))=true from decide_eq_true (by omega)]
    exact ⟨_,_,_,rfl,fun _=>⟨((q:Int)+v).toNat,by omega,by omega⟩⟩
  ·exact ⟨_,_,_,rfl,fun h=>by cases h⟩
theorem p_impl_ReadShort_is {text:ByteArray} {p:Nat} {s:ByteArray} (hs:text.size≤140737488351232) (hz:s.size≤20000) (hA:At text p (varL (s.size:Int)++bs s)):impl_ReadShort text p=some (s,((p+(varL (s.size:Int)).length+s.size:Nat):Int),true):=by
 have hp:p+(varL (s.size:Int)).length≤text.size:=by
  rcases hA.left.size with h | h
  ·have:=varL_pos (s.size:Int);rw [h] at this;simp at this
  ·exact h
 have hA2:=hA.right
 have hx:=hA2.extract (fun n hn=>bs_byte hn)
 rw [bs_len,ofBytes_bs] at hx
 simp only [impl_ReadShort,E_impl_ReadShort,p_impl_ReadVar_is hs (by omega) (by omega) hA.left,Option.bind_some]
 generalize p+(varL (s.size:Int)).length=q at *
 have hz:q+s.size≤text.size:=by
  rcases hA2.size with h | h
  ·have:=congrArg List.length h;rw [bs_len,List.length_nil] at this;omega
  ·rw [bs_len] at h;exact h
 have e2:w64 ((q:Int)+(s.size:Int))=((q+s.size:Nat):Int):=by rw [w64_id (by omega) (by omega)];omega
 rw [w64_id (n:=(text.size:Int) - (q:Int)) (by omega) (by omega),e2,Int.toNat_natCast,Int.toNat_natCast,hx,
  show decide ((s.size:Int) > 20000)=false from decide_eq_false (by omega),show decide ((s.size:Int) > (text.size:Int) - (q:Int))=false from decide_eq_false (by omega),show decide ((0:Int)≤(q:Int))=true from decide_eq_true (by omega),show decide ((q:Int)≤((q+s.size:Nat):Int))=true from decide_eq_true (by omega),show decide (((q+s.size:Nat):Int)≤(text.size:Int))=true from decide_eq_true (by omega)]
 rfl
theorem p_impl_fields_short {text:ByteArray} {c:SFields} (hs:text.size≤140737488351232) (h:FldOk text c):∃ v c',impl_fields_short c=some (v,c')∧FldOk text c':=by
 obtain ⟨p,b,rfl,hp⟩:=h
 obtain ⟨s,q,ok,hr,hR⟩:=p_impl_ReadShort hs hp
 simp only [impl_fields_short,E_impl_fields_short,hr,Option.bind_some]
 cases ok
 ·exact ⟨_,_,rfl,⟨p,true,rfl,hp⟩⟩
 ·obtain ⟨q,rfl,h3⟩:=hR rfl
  exact ⟨_,_,rfl,⟨q,b,rfl,h3⟩⟩
theorem p_impl_fields_short_is {text:ByteArray} {p:Nat} {s:ByteArray} (hs:text.size≤140737488351232) (hz:s.size≤20000) (hA:At text p (varL (s.size:Int)++bs s)):impl_fields_short ⟨text,(p:Int),false⟩=some (s,⟨text,((p+(varL (s.size:Int)).length+s.size:Nat):Int),false⟩):=by
 simp only [impl_fields_short,E_impl_fields_short,p_impl_ReadShort_is hs hz hA,Option.bind_some]
 rfl
def CurOk (text:ByteArray) (c:SL19Cur):Prop:=∃ p:Nat,∃ b:Bool,c=⟨text,(p:Int),b⟩∧p≤text.size
def flagBits (f:Int) (h a b c:Bool):Prop:=f=(bif h then 1 else 0)+(bif a then 2 else 0)+(bif b then 4 else 0)+(bif c then 8 else 0)
theorem flag_bits (x:SThing):(((flagN x).tmod 2 == 1)=x.fHidden)∧(((w64 ((flagN x).tdiv 2)).tmod 2 == 1)=x.fFixed)∧(((w64 ((flagN x).tdiv 4)).tmod 2 == 1)=x.fSigns)∧(((w64 ((flagN x).tdiv 8)).tmod 2 == 1)=x.fWraps):=by
 unfold flagN
 cases x.fHidden <;> cases x.fFixed <;> cases x.fSigns <;> cases x.fWraps <;> decide
theorem bs_thingT {x:SThing} (h:thingOk x=true):bs (thingT x)=varL x.fId++([x.fKind]++([flagN x]++((varL (x.fValue.size:Int)++bs x.fValue)++varL x.fNext))):=by
 obtain ⟨k1,k2,k3,k4,k5,k6,k7⟩:=thingOk_kind h
 have hf:=flagN_lt x
 unfold thingT shortT
 simp only [bs_append,bs_ofBytes (varL_byte x.fId (by omega)),bs_ofBytes (varL_byte x.fNext (by omega)),bs_ofBytes (varL_byte (x.fValue.size:Int) (by omega)),bs_ofBytes (l:=[x.fKind]) (by simp;omega),bs_ofBytes (l:=[flagN x]) (by simp;omega),List.append_assoc]
def ReadsThing (text:ByteArray) (r:SThing×Bool):Prop:=(r.2=true∧thingText r.1=(text,true))∨r=(⟨(0:Int),(0:Int),false,false,false,false,(⟨#[]⟩:ByteArray),(0:Int)⟩,false)
theorem thing_parts {text:ByteArray} {x:SThing} (h:thingText x=(text,true)):thingOk x=true∧text=thingT x:=by
 unfold thingText at h
 cases ho:thingOk x <;> rw [ho] at h
 ·simp at h
 ·exact ⟨rfl,(congrArg Prod.fst h).symm⟩
theorem flag_bits2 (x:SThing):((w64 (((BitVec.toNat ((BitVec.ofInt (IntKind.bits IntKind.i64) (flagN x)) &&& (BitVec.ofInt (IntKind.bits IntKind.i64) (1:Int)))):Nat):Int) != 0)=x.fHidden)∧((w64 (((BitVec.toNat ((BitVec.ofInt (IntKind.bits IntKind.i64) (flagN x)) &&& (BitVec.ofInt (IntKind.bits IntKind.i64) (2:Int)))):Nat):Int) != 0)=x.fFixed)∧((w64 (((BitVec.toNat ((BitVec.ofInt (IntKind.bits IntKind.i64) (flagN x)) &&& (BitVec.ofInt (IntKind.bits IntKind.i64) (4:Int)))):Nat):Int) != 0)=x.fSigns)∧((w64 (((BitVec.toNat ((BitVec.ofInt (IntKind.bits IntKind.i64) (flagN x)) &&& (BitVec.ofInt (IntKind.bits IntKind.i64) (8:Int)))):Nat):Int) != 0)=x.fWraps):=by
 unfold flagN
 cases x.fHidden <;> cases x.fFixed <;> cases x.fSigns <;> cases x.fWraps <;> refine ⟨?_,?_,?_,?_⟩ <;> kernel_rfl
theorem p_impl_ReadThing {text:ByteArray} (hs:text.size≤140737488351232):∃ r,impl_ReadThing text=some r∧ReadsThing text r:=by
 obtain ⟨v0,c0,e0,h0⟩:=p_impl_fields_num hs (c:=⟨text,(0:Int),false⟩) ⟨0,false,rfl,by omega⟩
 obtain ⟨v1,c1,e1,h1⟩:=p_impl_fields_num hs h0
 obtain ⟨v2,c2,e2,h2⟩:=p_impl_fields_num hs h1
 obtain ⟨v3,c3,e3,h3⟩:=p_impl_fields_short hs h2
 obtain ⟨v4,c4,e4,h4⟩:=p_impl_fields_num hs h3
 simp only [impl_ReadThing,E_impl_ReadThing,e0,e1,e2,e3,e4,p_impl_ThingText,Option.bind_some]
 generalize (w64 (((BitVec.toNat ((BitVec.ofInt (IntKind.bits IntKind.i64) v2) &&& (BitVec.ofInt (IntKind.bits IntKind.i64) (1:Int)))):Nat):Int) != 0)=b1
 generalize (w64 (((BitVec.toNat ((BitVec.ofInt (IntKind.bits IntKind.i64) v2) &&& (BitVec.ofInt (IntKind.bits IntKind.i64) (2:Int)))):Nat):Int) != 0)=b2
 generalize (w64 (((BitVec.toNat ((BitVec.ofInt (IntKind.bits IntKind.i64) v2) &&& (BitVec.ofInt (IntKind.bits IntKind.i64) (4:Int)))):Nat):Int) != 0)=b3
 generalize (w64 (((BitVec.toNat ((BitVec.ofInt (IntKind.bits IntKind.i64) v2) &&& (BitVec.ofInt (IntKind.bits IntKind.i64) (8:Int)))):Nat):Int) != 0)=b4
 cases c4.fBad
 ·cases h5:(thingText (⟨v0,v1,b1,b2,b3,b4,v3,v4⟩:SThing)).2
  ·exact ⟨_,rfl,.inr rfl⟩
  ·rw [toList_inj]
   by_cases h6:(thingText (⟨v0,v1,b1,b2,b3,b4,v3,v4⟩:SThing)).1=text
   ·rw [decide_eq_true h6];exact ⟨_,rfl,.inl ⟨rfl,Prod.ext h6 h5⟩⟩
   ·rw [decide_eq_false h6];exact ⟨_,rfl,.inr rfl⟩
 ·exact ⟨_,rfl,.inr rfl⟩
theorem p_impl_ReadThing_is {text:ByteArray} {x:SThing} (hs:text.size≤140737488351232) (h:thingText x=(text,true)):impl_ReadThing text=some (x,true):=by
 obtain ⟨ho,rfl⟩:=thing_parts h
 obtain ⟨k1,k2,k3,k4,k5,k6,k7⟩:=thingOk_kind ho
 have hf:=flagN_lt x
 have hA:At (thingT x) 0 _:=⟨[],by rw [List.drop_zero,bs_thingT ho,List.append_nil]⟩
 rw [←varL_one (n:=x.fKind) (by omega) (by omega),←varL_one (n:=flagN x) (by omega) (by omega)] at hA
 have a1:=hA.right
 have a2:=a1.right
 have a3:=a2.right
 have a4:=a3.right
 have e0:=p_impl_fields_num_is hs (by omega) (by omega) hA.left
 have e1:=p_impl_fields_num_is hs (by omega) (by omega) a1.left
 have e2:=p_impl_fields_num_is hs (by omega) (by omega) a2.left
 have e3:=p_impl_fields_short_is hs (by omega) a3.left
 have e4:=p_impl_fields_num_is hs (by omega) (by omega) a4
 simp only [List.length_append,bs_len,Nat.zero_add,←Nat.add_assoc] at e0 e1 e2 e3 e4
 obtain ⟨b1,b2,b3,b4⟩:=flag_bits2 x
 simp only [impl_ReadThing,E_impl_ReadThing]
 rw [show impl_fields_num ⟨thingT x,(0:Int),false⟩=_ from e0]
 simp only [e1,e2,e3,e4,Option.bind_some,b1,b2,b3,b4,p_impl_ThingText,h,toList_self]
 rfl
def zRec:SRec:=⟨(0:Int),(⟨#[]⟩:ByteArray),(0:Int),(⟨(0:Int),(0:Int),false,false,false,false,(⟨#[]⟩:ByteArray),(0:Int)⟩:SThing)⟩
def ReadsRec (text:ByteArray) (r:SRec×Bool):Prop:=(r.2=true∧recText r.1=(text,true))∨r=(zRec,false)
theorem rec_end {text:ByteArray} (x:SRec) (bad:Bool):∃ r,(bif bad then some (zRec,false) else bif !(recText x).2 then some (zRec,false) else bif !((ByteArray.toList (recText x).1) == (ByteArray.toList text)) then some (zRec,false) else some (x,true))=some r∧ReadsRec text r:=by
 cases bad
 ·cases h5:(recText x).2
  ·exact ⟨_,rfl,.inr rfl⟩
  ·rw [toList_inj]
   by_cases h6:(recText x).1=text
   ·rw [decide_eq_true h6];exact ⟨_,rfl,.inl ⟨rfl,Prod.ext h6 h5⟩⟩
   ·rw [decide_eq_false h6];exact ⟨_,rfl,.inr rfl⟩
 ·exact ⟨_,rfl,.inr rfl⟩
theorem rec_parts {text:ByteArray} {x:SRec} (h:recText x=(text,true)) :
  (∃ s:ByteArray,x=⟨1,s,0,zRec.fThing⟩∧s.size=32∧text=ofBytes [1]++s)∨(∃ n:Int,x=⟨2,zRec.fText,n,zRec.fThing⟩∧0≤n∧n≤3∧text=ofBytes [2]++ofBytes (varL n))∨
  (∃ t:SThing,∃ s:ByteArray,x=⟨3,zRec.fText,0,t⟩∧thingText t=(s,true)∧text=ofBytes [3]++s)∨(∃ n:Int,x=⟨4,zRec.fText,n,zRec.fThing⟩∧1≤n∧n≤1000∧text=ofBytes [4]++ofBytes (varL n)):=by
 have hE:∀ s:ByteArray,isE s=true→s=⟨#[]⟩:=fun s h=>by unfold isE at h;rw [toList_inj] at h;exact of_decide_eq_true h
 have hZ:∀ t:SThing,isZ t=true→t=zRec.fThing:=fun t h=>by
  unfold isZ at h
  simp only [isE_e] at h
  obtain ⟨t1,t2,t3,t4,t5,t6,t7,t8⟩:=t
  simp only [Bool.and_eq_true,beq_iff_eq] at h
  obtain ⟨rfl,rfl,rfl,rfl,rfl,rfl,h7,rfl,_⟩:=h
  rw [hE _ h7];rfl
 obtain ⟨k,s,n,t⟩:=x
 unfold recText at h
 simp only at h
 cases k1:k == 1 <;> rw [k1] at h
 ·cases k2:k == 2 <;> rw [k2] at h
  ·cases k3:k == 3 <;> rw [k3] at h
   ·cases k4:k == 4 <;> rw [k4] at h
    ·exact Bool.noConfusion (congrArg Prod.snd h)
    ·simp only [cond_false,cond_true] at h
     cases hc:isE s && isZ t && inR n 1 1000 <;> rw [hc] at h
     ·exact Bool.noConfusion (congrArg Prod.snd h)
     ·simp only [Bool.and_eq_true,inR_iff] at hc
      refine .inr (.inr (.inr ⟨n,?_,hc.2.1,hc.2.2,(congrArg Prod.fst h).symm⟩))
      rw [beq_iff_eq.1 k4,hE _ hc.1.1,hZ _ hc.1.2];rfl
   ·simp only [cond_false,cond_true] at h
    cases hc:(thingText t).2 && isE s && n == 0 <;> rw [hc] at h
    ·exact Bool.noConfusion (congrArg Prod.snd h)
    ·simp only [Bool.and_eq_true,beq_iff_eq] at hc
     refine .inr (.inr (.inl ⟨t,(thingText t).1,?_,Prod.ext rfl hc.1.1,(congrArg Prod.fst h).symm⟩))
     rw [beq_iff_eq.1 k3,hE _ hc.1.2,hc.2];rfl
  ·simp only [cond_false,cond_true] at h
   cases hc:isE s && isZ t && inR n 0 3 <;> rw [hc] at h
   ·exact Bool.noConfusion (congrArg Prod.snd h)
   ·simp only [Bool.and_eq_true,inR_iff] at hc
    refine .inr (.inl ⟨n,?_,hc.2.1,hc.2.2,(congrArg Prod.fst h).symm⟩)
    rw [beq_iff_eq.1 k2,hE _ hc.1.1,hZ _ hc.1.2];rfl
 ·simp only [cond_false,cond_true] at h
  cases hc:(s.size:Int) == 32 && n == 0 && isZ t <;> rw [hc] at h
  ·exact Bool.noConfusion (congrArg Prod.snd h)
  ·simp only [Bool.and_eq_true,beq_iff_eq] at hc
   refine .inl ⟨s,?_,by omega,(congrArg Prod.fst h).symm⟩
   rw [beq_iff_eq.1 k1,hZ _ hc.2,hc.1.2]
theorem rec_at {k:Int} {s:ByteArray} (h0:0≤k) (h1:k≤255):At (ofBytes [k]++s) 0 ([k]++bs s):=⟨[],by rw [List.drop_zero,bs_append,bs_ofBytes (by simp;omega),List.append_nil]⟩
theorem rec_tail {k:Int} {s:ByteArray}:(ofBytes [k]++s).extract (1:Int).toNat (ofBytes [k]++s).size=s:=by
 apply bs_inj
 rw [bs_extract,←bs_len,List.take_length,bs_append]
 rfl
theorem rec_end2 {text:ByteArray} (x:SRec):∃ r,(bif !(recText x).2 then some (zRec,false) else bif !((ByteArray.toList (recText x).1) == (ByteArray.toList text)) then some (zRec,false) else some (x,true))=some r∧ReadsRec text r:=rec_end x false
theorem p_impl_ReadRec {text:ByteArray} (hs:text.size≤140737488351232):∃ r,impl_ReadRec text=some r∧ReadsRec text r:=by
 simp only [impl_ReadRec,E_impl_ReadRec]
 rw [toList_inj]
 by_cases he:text=⟨#[]⟩
 ·rw [decide_eq_true he];exact ⟨_,rfl,.inr rfl⟩
 ·have hz:0<text.size:=by
   rcases Nat.eq_zero_or_pos text.size with h | h
   ·exact absurd (bs_inj (List.eq_nil_of_length_eq_zero (by rw [bs_len];exact h)):text=⟨#[]⟩) he
   ·exact h
  rw [decide_eq_false he,show decide ((0:Int)<(text.size:Int))=true from decide_eq_true (by omega),show decide ((1:Int)≤(text.size:Int))=true from decide_eq_true (by omega)]
  have hb:=bt_byte text 0
  rw [w64_id (n:=bt text 0) (by omega) (by omega)]
  obtain ⟨⟨t,tb⟩,e1,_⟩:=p_impl_ReadThing (text:=text.extract (1:Int).toNat text.size) (by rw [ByteArray.size_extract];omega)
  obtain ⟨⟨v,q,ok⟩,e2,hR⟩:=p_impl_ReadVar (a:=1) hs hz
  have hv:v≤1000000000:=by
   rcases hR with h | ⟨v',_,h,_,h1,_⟩
   ·have:=congrArg Prod.fst h;simp only [no3] at this;omega
   ·have:=congrArg Prod.fst h;simp only at this;omega
  rw [e1,show impl_ReadVar text (1:Int)=_ from e2]
  simp only [Option.bind_some,cond_false,cond_true,Bool.and_self]
  cases bt text 0 == 1
  ·simp only [cond_false]
   cases bt text 0 == 3
   ·simp only [cond_false]
    rw [p_impl_RecText (by simp only;omega)]
    exact rec_end2 _
   ·simp only [cond_true]
    rw [p_impl_RecText (by simp only;omega)]
    exact rec_end2 _
  ·simp only [cond_true]
   rw [p_impl_RecText (by simp only;omega)]
   exact rec_end2 _
theorem p_impl_ReadRec_is {text:ByteArray} {x:SRec} (hs:text.size≤140737488351232) (h:recText x=(text,true)):impl_ReadRec text=some (x,true):=by
 have hne:∀ (k:Int) (s:ByteArray),(decide (ofBytes [k]++s=⟨#[]⟩))=false:=fun k s=>decide_eq_false fun h=>by
  have:=congrArg ByteArray.size h
  rw [ba_append_size,ofBytes_size] at this
  simp only [List.length_singleton] at this
  have h0:(⟨#[]⟩:ByteArray).size=0:=rfl
  omega
 have hd:∀ (k:Int) (s:ByteArray),decide ((0:Int)<((ofBytes [k]++s).size:Int))=true∧decide ((1:Int)≤((ofBytes [k]++s).size:Int))=true:=fun k s=>by
  rw [ba_append_size,ofBytes_size];simp only [List.length_singleton]
  exact ⟨decide_eq_true (by omega),decide_eq_true (by omega)⟩
 have hk:∀ (k:Int) (s:ByteArray),0≤k→k≤255→w64 (bt (ofBytes [k]++s) 0)=k:=fun k s h0 h1=>by
  rw [(rec_at (k:=k) (s:=s) h0 h1).left.head.2 |> fun e=>(show bt (ofBytes [k]++s) 0=k from e),w64_id (by omega) (by omega)]
 rcases rec_parts h with ⟨s,rfl,hz,rfl⟩ | ⟨n,rfl,h0,h1,rfl⟩ | ⟨t,s,rfl,ht,rfl⟩ | ⟨n,rfl,h0,h1,rfl⟩
 ·have h':recText ⟨1,s,0,⟨(0:Int),(0:Int),false,false,false,false,(⟨#[]⟩:ByteArray),(0:Int)⟩⟩=_:=h
  simp only [impl_ReadRec,E_impl_ReadRec,hk 1 s (by omega) (by omega),hd,rec_tail,p_impl_RecText (r:=⟨1,s,0,⟨(0:Int),(0:Int),false,false,false,false,(⟨#[]⟩:ByteArray),(0:Int)⟩⟩) (by simp only;omega),h',Option.bind_some,toList_inj,hne]
  simp [zRec]
 ·have hA:=rec_at (k:=2) (s:=ofBytes (varL n)) (by omega) (by omega)
  rw [bs_ofBytes (varL_byte n h0)] at hA
  have e1:=p_impl_ReadVar_is hs (by omega) (by omega) hA.right
  simp only [List.length_singleton,Nat.zero_add] at e1
  have e2:impl_ReadVar (ofBytes [2]++ofBytes (varL n)) (1:Int)=_:=e1
  have h':recText ⟨2,⟨#[]⟩,n,⟨(0:Int),(0:Int),false,false,false,false,(⟨#[]⟩:ByteArray),(0:Int)⟩⟩=_:=h
  simp only [impl_ReadRec,E_impl_ReadRec,hk 2 _ (by omega) (by omega),hd,e2,Option.bind_some,p_impl_RecText (r:=⟨2,⟨#[]⟩,n,⟨(0:Int),(0:Int),false,false,false,false,(⟨#[]⟩:ByteArray),(0:Int)⟩⟩) (by simp only;omega),h',toList_inj,hne]
  simp [zRec]
 ·have hsz:s.size≤140737488351232:=by rw [ba_append_size] at hs;omega
  have e1:=p_impl_ReadThing_is hsz ht
  have h':recText ⟨3,⟨#[]⟩,0,t⟩=_:=h
  simp only [impl_ReadRec,E_impl_ReadRec,hk 3 s (by omega) (by omega),hd,rec_tail,e1,Option.bind_some,p_impl_RecText (r:=⟨3,⟨#[]⟩,0,t⟩) (by simp only;omega),h',toList_inj,hne]
  simp [zRec]
 ·have hA:=rec_at (k:=4) (s:=ofBytes (varL n)) (by omega) (by omega)
  rw [bs_ofBytes (varL_byte n (by omega))] at hA
  have e1:=p_impl_ReadVar_is hs (by omega) (by omega) hA.right
  simp only [List.length_singleton,Nat.zero_add] at e1
  have e2:impl_ReadVar (ofBytes [4]++ofBytes (varL n)) (1:Int)=_:=e1
  have h':recText ⟨4,⟨#[]⟩,n,⟨(0:Int),(0:Int),false,false,false,false,(⟨#[]⟩:ByteArray),(0:Int)⟩⟩=_:=h
  simp only [impl_ReadRec,E_impl_ReadRec,hk 4 _ (by omega) (by omega),hd,e2,Option.bind_some,p_impl_RecText (r:=⟨4,⟨#[]⟩,n,⟨(0:Int),(0:Int),false,false,false,false,(⟨#[]⟩:ByteArray),(0:Int)⟩⟩) (by simp only;omega),h',toList_inj,hne]
  simp [zRec]
theorem xorL_xorL:∀ {a m:List Int},Byt a→a.length≤m.length→xorL (xorL a m) m=a
 | [],_,_,_=>by simp [xorL]
 | _::_,[],_,h=>by simp at h
 | x::a,y::m,hb,h=>by
  have h1:=xorL_xorL (a:=a) (m:=m) (fun n hn=>hb n (List.mem_cons_of_mem _ hn)) (by simpa using h)
  simp only [xorL] at h1 ⊢
  rw [List.zipWith_cons_cons,List.zipWith_cons_cons,h1,xb_xb (hb x (List.mem_cons_self ..))]
theorem openT_true {k t:ByteArray} {num:Int} (h:(openT k num t).2=true):16≤t.size∧maskOk num ((t.size:Int) - 16)=true∧tagL (bs k) num ((bs t).take (t.size - 16))=(bs t).drop (t.size - 16)∧bs (openT k num t).1=xorL ((bs t).take (t.size - 16)) (maskL (bs k) (varL num) (t.size - 16))∧bs t=(bs t).take (t.size - 16)++tagL (bs k) num ((bs t).take (t.size - 16)):=by
 rw [openT] at h ⊢
 cases h1:decide ((t.size:Int)<16) || !(maskOk num ((t.size:Int) - 16))
 ·rw [h1,cond_false] at h
  rw [Bool.or_eq_false_iff,decide_eq_false_iff_not,Bool.not_eq_false'] at h1
  cases h2:(tagL (bs k) num ((bs t).take (t.size - 16)) == (bs t).drop (t.size - 16))
  ·rw [h2] at h;cases h
  ·rw [cond_false,cond_true,bs_ofBytes (xorL_byt _ _)]
   have h3:=beq_iff_eq.1 h2
   exact ⟨by omega,h1.2,h3,rfl,by rw [h3,List.take_append_drop]⟩
 ·rw [h1] at h;cases h
theorem openT_size (k t:ByteArray) (num:Int):(openT k num t).1.size≤t.size:=by
 have hl:=bs_len t
 rw [openT]
 cases decide ((t.size:Int)<16) || !(maskOk num ((t.size:Int) - 16))
 ·rw [cond_false]
  cases (tagL (bs k) num ((bs t).take (t.size - 16)) == (bs t).drop (t.size - 16))
  ·exact Nat.zero_le _
  ·rw [cond_true,ofBytes_size,xorL,List.length_zipWith,List.length_take];omega
 ·exact Nat.zero_le _
theorem open_seal {k:ByteArray} {num:Int} {s:List Int} (hs:Byt s) (hm:maskOk num s.length=true):openT k num (ofBytes (sealL (bs k) num s))=(ofBytes s,true):=by
 have hx:(xorL s (maskL (bs k) (varL num) s.length)).length=s.length:=xorL_len (by rw [maskL_len];omega)
 have hb:Byt (sealL (bs k) num s):=fun x hx=>by
  rcases List.mem_append.1 hx with hx | hx
  ·exact xorL_byt _ _ x hx
  ·exact tagL_byt _ _ _ x hx
 have hsz:(ofBytes (sealL (bs k) num s)).size=s.length+16:=by rw [ofBytes_size,sealL,List.length_append,hx,tagL_len]
 rw [openT,bs_ofBytes hb,hsz,Nat.add_sub_cancel,show ((s.length+16:Nat):Int) - 16=(s.length:Int) by omega,hm]
 have h1:decide (((s.length+16:Nat):Int)<16)=false:=by rw [decide_eq_false_iff_not];omega
 have h2:(sealL (bs k) num s).take s.length=xorL s (maskL (bs k) (varL num) s.length):=by rw [sealL,List.take_append_of_le_length (by omega),List.take_of_length_le (by omega)]
 have h3:(sealL (bs k) num s).drop s.length=tagL (bs k) num (xorL s (maskL (bs k) (varL num) s.length)):=by rw [sealL,List.drop_append_of_le_length (by omega),List.drop_of_length_le (by omega),List.nil_append]
 rw [h1,h2,h3,beq_self_eq_true,xorL_xorL hs (by rw [maskL_len];omega)]
 rfl
theorem seal_open {k t:ByteArray} {num:Int} (h:(openT k num t).2=true):sealL (bs k) num (bs (openT k num t).1)=bs t:=by
 obtain ⟨h1,h2,h3,h4,h5⟩:=openT_true h
 have hl:((bs t).take (t.size - 16)).length=t.size - 16:=by rw [List.length_take,bs_len];omega
 have hx:(bs (openT k num t).1).length=t.size - 16:=by rw [h4,xorL_len (by rw [maskL_len];omega),hl]
 rw [sealL,hx,h4,xorL_xorL (fun n hn=>byt_bs t n (List.mem_of_mem_take hn)) (by rw [maskL_len];omega),←h5]
theorem seal_inj {k:ByteArray} {num:Int} {a b:List Int} (ha:Byt a) (hb:Byt b) (h:sealL (bs k) num a=sealL (bs k) num b):a=b:=by
 have xa:(xorL a (maskL (bs k) (varL num) a.length)).length=a.length:=xorL_len (by rw [maskL_len];omega)
 have xb':(xorL b (maskL (bs k) (varL num) b.length)).length=b.length:=xorL_len (by rw [maskL_len];omega)
 have hl:=congrArg List.length h
 rw [sealL,sealL,List.length_append,List.length_append,xa,xb',tagL_len,tagL_len] at hl
 have hab:a.length=b.length:=by omega
 have h1:=(List.append_inj h (by rw [xa,xb',hab])).1
 have h2:xorL (xorL a (maskL (bs k) (varL num) a.length)) (maskL (bs k) (varL num) a.length)=xorL (xorL b (maskL (bs k) (varL num) b.length)) (maskL (bs k) (varL num) b.length):=by rw [h1,hab]
 rw [xorL_xorL ha (by rw [maskL_len];omega),xorL_xorL hb (by rw [maskL_len];omega)] at h2
 exact h2
noncomputable def rdRec (t:ByteArray):SRec×Bool:=@dite _ (∃ x,recText x=(t,true)) (Classical.propDecidable _) (fun h=>(h.choose,true)) (fun _=>(zRec,false))
theorem rdRec_of {t:ByteArray} {o:Option (SRec×Bool)} (h1:∃ r,o=some r∧ReadsRec t r) (h2:∀ x,recText x=(t,true)→o=some (x,true)):o=some (rdRec t):=by
 unfold rdRec
 split
 ·rename_i h
  exact h2 _ h.choose_spec
 ·rename_i h
  obtain ⟨r,hr,⟨_,k⟩ | k⟩:=h1
  ·exact absurd ⟨_,k⟩ h
  ·rw [hr,k]
theorem e_impl_rdRec {t:ByteArray} (h:t.size≤140737488351232):impl_ReadRec t=some (rdRec t):=rdRec_of (p_impl_ReadRec h) (fun _ hx=>p_impl_ReadRec_is h hx)
theorem rdRec_reads {t:ByteArray} (_:t.size≤140737488351232):ReadsRec t (rdRec t):=by
 unfold rdRec
 split
 ·rename_i h
  exact .inl ⟨rfl,h.choose_spec⟩
 ·exact .inr rfl
noncomputable def rdBook (k:ByteArray):Int→List ByteArray→List SRec×Int
 | _,[]=>([],0)
 | i,f::fs=>bif (openT k i f).2 && (rdRec (openT k i f).1).2 then ((rdRec (openT k i f).1).1::(rdBook k (i+1) fs).1,((frameT f).1.size:Int)+(rdBook k (i+1) fs).2) else ([],0)
noncomputable def readBook (k file:ByteArray):List SRec×Int:=rdBook k 1 (unfT file).1
theorem unf_small {file:ByteArray} (hs:file.size≤140737488351232):∀ (j a:Nat),a≤file.size→(∀ f ∈ (unf j file a).1,f.size≤file.size)∧(unf j file a).1.length+a≤file.size∧(unf j file a).2≤file.size:=by
 intro j
 induction j with
 | zero=>intro a ha;exact ⟨fun f hf=>(by cases hf),by simpa [unf] using ha,ha⟩
 | succ j ih=>
  intro a ha
  rw [unf]
  rcases nextF_x hs ha with h | ⟨v,q,_,hq,_,_,_,h3,_,_,h⟩
  ·rw [h];exact ⟨fun f hf=>(by cases hf),by simpa using ha,ha⟩
  ·rw [h]
   obtain ⟨i1,i2,i3⟩:=ih (q+4+v.toNat) h3
   refine ⟨fun f hf=>?_,?_,i3⟩
   ·rcases List.mem_cons.1 hf with rfl | hf
    ·show (file.extract (q+4) (q+4+v.toNat)).size≤file.size
     rw [ByteArray.size_extract];omega
    ·exact i1 f hf
   ·show (_::(unf j file (q+4+v.toNat)).1).length+a≤file.size
    rw [List.length_cons];omega
theorem unfT_small {file:ByteArray}:(∀ f ∈ (unfT file).1,f.size≤20000)∧(unfT file).1.length≤20000∧0≤(unfT file).2∧(unfT file).2≤(file.size:Int):=by
 rw [unfT]
 by_cases h:(file.size:Int) > 20000
 ·rw [decide_eq_true h]
  exact ⟨fun f hf=>(by cases hf),(by decide:0≤20000),Int.le_refl 0,by show (0:Int)≤_;omega⟩
 ·rw [decide_eq_false h]
  obtain ⟨h1,h2,h3⟩:=unf_small (file:=file) (by omega) (file.size+1) 0 (Nat.zero_le _)
  exact ⟨fun f hf=>by have:=h1 f hf;omega,by show (unf (file.size+1) file 0).1.length≤20000;omega,by show (0:Int)≤((unf (file.size+1) file 0).2:Int);omega,by show ((unf (file.size+1) file 0).2:Int)≤_;omega⟩
theorem rdBook_len (k:ByteArray):∀ (fs:List ByteArray) (i:Int),(rdBook k i fs).1.length≤fs.length:=by
 intro fs
 induction fs with
 | nil=>intro i;exact Nat.le_refl _
 | cons f fs ih=>
  intro i
  rw [rdBook]
  cases (openT k i f).2 && (rdRec (openT k i f).1).2
  ·exact Nat.zero_le _
  ·rw [cond_true,List.length_cons,List.length_cons];have:=ih (i+1);omega
theorem p_impl_ReadBook {k file:ByteArray} (hk:k.size≤900000000) (hf:file.size≤140737488351232):impl_ReadBook k file=some (readBook k file):=by
 obtain ⟨u1,u2,_,_⟩:=unfT_small (file:=file)
 rw [impl_ReadBook,E_impl_ReadBook,p_impl_Unframe hf,Option.bind_some,readBook]
 generalize (unfT file).1=l at u1 u2
 have key:∀ (j i m:Nat) (e:Int) (out:List SRec),i+j=l.length→0≤e→e≤30000*i→out.length≤i→L_impl_ReadBook (m+j+1) (.c0 k e (l.length:Int) (i:Int) out l)=some (out++(rdBook k ((i:Int)+1) (l.drop i)).1,e+(rdBook k ((i:Int)+1) (l.drop i)).2):=by
  intro j
  induction j with
  | zero=>
   intro i m e out h he he2 ho
   obtain rfl:i=l.length:=by omega
   rw [L_impl_ReadBook]
   simp only [B_impl_ReadBook]
   rw [cond_f (by simp),List.drop_length,rdBook,List.append_nil,Int.add_zero]
  | succ j ih=>
   intro i m e out h he he2 ho
   have hi:i<l.length:=by omega
   have hz:=u1 _ (List.getElem_mem hi)
   have ew:w64 ((i:Int)+1)=((i+1:Nat):Int):=by rw [w64_id (by omega) (by omega)];rfl
   have hoz:=openT_size k l[i] ((i+1:Nat):Int)
   have hfz:=frameT_size (t:=l[i]) (by omega)
   rw [show m+(j+1)+1=(m+j+1)+1 by omega,L_impl_ReadBook]
   simp only [B_impl_ReadBook,ew,Int.toNat_natCast,getD_at hi]
   rw [cond_t (by simp;omega),cond_t (by simp;omega),p_impl_OpenText hk (by omega),Option.bind_some,e_impl_rdRec (by omega),Option.bind_some,drop_at hi,rdBook,show ((i:Int)+1)=((i+1:Nat):Int) from rfl]
   cases (openT k ((i+1:Nat):Int) l[i]).2
   ·rw [Bool.false_and,cond_false,List.append_nil,Int.add_zero];rfl
   ·rw [cond_f (by rfl),Bool.true_and]
    cases (rdRec (openT k ((i+1:Nat):Int) l[i]).1).2
    ·rw [cond_false,List.append_nil,Int.add_zero];rfl
    ·have h2:=ih (i+1) m (e+((frameT l[i]).1.size:Int)) (out++[(rdRec (openT k ((i+1:Nat):Int) l[i]).1).1]) (by omega) (by omega) (by omega) (by simp;omega)
     simp only [Bool.not_true,cond_false,cond_true]
     rw [cond_t (by simp;omega),p_impl_Frame (by omega),Option.bind_some,w64_id (by omega) (by omega),h2,List.append_assoc,Int.add_assoc]
     rfl
 obtain ⟨m,hm⟩:∃ m,gas=m+l.length+1:=⟨gas - (l.length+1),by have:=gas_lt (n:=l.length+1) (by omega);omega⟩
 have h0:=key l.length 0 m 0 [] (by omega) (by omega) (by omega) (Nat.le_refl _)
 rw [List.nil_append,Int.zero_add,List.drop_zero] at h0
 rw [hm]
 exact h0
def enterAllB (b:SBook):List SRec→SBook×Bool
 | []=>(b,true)
 | r::rs=>bif (enterB b r).2 then enterAllB (enterB b r).1 rs else (zBook,false)
theorem enterB_len {b:SBook} {r:SRec} (h:(enterB b r).2=true):(enterB b r).1.fThings.length≤8:=(bookOk_iff.1 (enterB_ok h).2.2.2.1).2.2.2.1
theorem enterAll_ok {rs:List SRec}:∀ {b:SBook},bookOk b=true→(enterAllB b rs).2=true→bookOk (enterAllB b rs).1=true:=by
 induction rs with
 | nil=>intro b h _;exact h
 | cons r rs ih=>
  intro b h h2
  rw [enterAllB] at h2 ⊢
  cases h3:(enterB b r).2
  ·rw [h3] at h2;cases h2
  ·rw [h3,cond_true] at h2
   rw [cond_true]
   exact ih (enterB_ok h3).2.2.2.1 h2
theorem p_impl_EnterAll {b:SBook} {l:List SRec} (hb:b.fThings.length≤2932031007317) (hl:l.length≤140737488351232) (hr:∀ r ∈ l,r.fNum≤9223372036854775807):impl_EnterAll b l=some (enterAllB b l):=by
 have key:∀ (j i m:Nat) (b:SBook),i+j=l.length→b.fThings.length≤2932031007317→L_impl_EnterAll (m+j+1) (.c0 l (l.length:Int) (i:Int) ⟨#[]⟩ 0 0 ⟨#[]⟩ 0 b.fWord b.fTries b.fLast b.fChain b.fCount [] b.fThings)=some (enterAllB b (l.drop i)):=by
  intro j
  induction j with
  | zero=>
   intro i m b h hb
   obtain rfl:i=l.length:=by omega
   rw [L_impl_EnterAll]
   simp only [B_impl_EnterAll]
   rw [cond_f (by simp),List.drop_length];rfl
  | succ j ih=>
   intro i m b h hb
   have hi:i<l.length:=by omega
   have e:w64 ((i:Int)+1)=((i+1:Nat):Int):=by rw [w64_id (by omega) (by omega)];rfl
   rw [show m+(j+1)+1=(m+j+1)+1 by omega,L_impl_EnterAll]
   simp only [B_impl_EnterAll,e,Int.toNat_natCast,getD_at hi]
   rw [cond_t (by simp;omega),cond_t (by simp;omega),p_impl_Enter (by show b.fThings.length≤_;omega) (hr _ (List.getElem_mem hi)),Option.bind_some,drop_at hi,enterAllB]
   cases h2:(enterB b l[i]).2
   ·rfl
   ·have h3:=enterB_len h2
    rw [cond_f (by rfl),cond_true]
    exact ih (i+1) m (enterB b l[i]).1 (by omega) (by omega)
 obtain ⟨m,hm⟩:∃ m,gas=m+l.length+1:=⟨gas - (l.length+1),by have:=gas_lt (n:=l.length+1) (by omega);omega⟩
 rw [impl_EnterAll,E_impl_EnterAll,p_impl_copyBook hb,Option.bind_some,hm]
 exact key l.length 0 m b (by omega) hb
theorem nextF_size {file:ByteArray} {a:Nat} (hs:file.size≤140737488351232) (ha:a≤file.size) {p:ByteArray×Nat} (h:nextF file a=some p):p.2=a+(frameT p.1).1.size∧p.2≤file.size:=by
 rcases nextF_x hs ha with h1 | ⟨v,q,_,hq,hq2,hv1,hv2,h3,_,_,h1⟩
 ·rw [h1] at h;cases h
 ·rw [h1] at h
  cases h
  have hz:(file.extract (q+4) (q+4+v.toNat)).size=v.toNat:=by rw [ByteArray.size_extract];omega
  have hin:inR ((file.extract (q+4) (q+4+v.toNat)).size:Int) 1 9000=true:=by rw [hz,inR_iff];omega
  refine ⟨?_,h3⟩
  show q+4+v.toNat=a+(frameT (file.extract (q+4) (q+4+v.toNat))).1.size
  rw [frameT,hin,cond_true,ofBytes_size,frameL,List.length_append,List.length_append,bs_len,hz,show ((v.toNat:Nat):Int)=v by omega]
  have:(four (sumL (bs (file.extract (q+4) (q+4+v.toNat))))).length=4:=rfl
  omega
theorem rdBook_end (k:ByteArray) {file:ByteArray} (hs:file.size≤140737488351232):∀ (j a:Nat) (i:Int),a≤file.size→0≤(rdBook k i (unf j file a).1).2∧(a:Int)+(rdBook k i (unf j file a).1).2≤(file.size:Int):=by
 intro j
 induction j with
 | zero=>intro a i ha;exact ⟨Int.le_refl 0,by show (a:Int)+0≤_;omega⟩
 | succ j ih=>
  intro a i ha
  rw [unf]
  cases h:nextF file a with
  | none=>exact ⟨Int.le_refl 0,by show (a:Int)+0≤_;omega⟩
  | some p=>
   obtain ⟨h1,h2⟩:=nextF_size hs ha h
   obtain ⟨h3,h4⟩:=ih p.2 (i+1) h2
   simp only [rdBook]
   cases (openT k i p.1).2 && (rdRec (openT k i p.1).1).2
   ·exact ⟨Int.le_refl 0,by show (a:Int)+0≤_;omega⟩
   ·rw [cond_true]
    exact ⟨by simp only;omega,by simp only;omega⟩
theorem readBook_end (k file:ByteArray):0≤(readBook k file).2∧(readBook k file).2≤(file.size:Int):=by
 rw [readBook,unfT]
 by_cases h:(file.size:Int) > 20000
 ·rw [decide_eq_true h];exact ⟨Int.le_refl 0,by show (0:Int)≤_;omega⟩
 ·rw [decide_eq_false h,cond_false]
  have h2:=rdBook_end k (file:=file) (by omega) (file.size+1) 0 1 (Nat.zero_le _)
  exact ⟨h2.1,by have:=h2.2;show (rdBook k 1 (unf (file.size+1) file 0).1).2≤_;omega⟩
theorem fileT_small {d:SDisk} {n:ByteArray} {B:Nat} (hf:∀ f ∈ d.fFiles,f.fText.size≤B):(fileT d n).1.size≤B:=by
 rw [fileT]
 cases h:placeF d.fFiles n 0 with
 | none=>exact Nat.zero_le _
 | some j=>
  have h1:=(placeF_lt h).2
  show ((d.fFiles.getD j zFile).fText).size≤B
  rw [getD_at (by omega)]
  exact hf _ (List.getElem_mem _)
def nBook:ByteArray:=⟨#[98,111,111,107]⟩
def nNew:ByteArray:=⟨#[98,111,111,107,43]⟩
noncomputable def mountT (k:ByteArray) (d:SDisk):SBook×List SAct×Bool:=
 bif !(diskOk d) || !(enterAllB bookNew (readBook k (fileT d nBook).1).1).2 then (zBook,[],false)
 else ((enterAllB bookNew (readBook k (fileT d nBook).1).1).1,(bif decide (atF d nNew≥0) then [⟨4,nNew,⟨#[]⟩,⟨#[]⟩⟩] else [])++(bif (readBook k (fileT d nBook).1).2 == ((fileT d nBook).1.size:Int) then [] else [⟨1,nNew,(fileT d nBook).1.extract 0 (readBook k (fileT d nBook).1).2.toNat,⟨#[]⟩⟩,⟨2,nNew,⟨#[]⟩,⟨#[]⟩⟩,⟨3,nNew,⟨#[]⟩,nBook⟩]),true)
theorem recs_num (k:ByteArray):∀ (fs:List ByteArray) (i:Int),(∀ f ∈ fs,f.size≤20000)→∀ r ∈ (rdBook k i fs).1,r.fNum≤9223372036854775807:=by
 intro fs
 induction fs with
 | nil=>intro i _ r hr;cases hr
 | cons f fs ih=>
  intro i hf r hr
  rw [rdBook] at hr
  cases h:(openT k i f).2 && (rdRec (openT k i f).1).2
  ·rw [h] at hr;cases hr
  ·rw [h,cond_true] at hr
   rcases List.mem_cons.1 hr with rfl | hr
   ·have hz:=openT_size k f i
    have hfz:=hf f (List.mem_cons_self ..)
    rcases rdRec_reads (t:=(openT k i f).1) (by omega) with ⟨_,h2⟩ | h2
    ·have h3:(recText (rdRec (openT k i f).1).1).2=true:=by rw [h2]
     rcases recText_cases h3 with ⟨hk,_⟩ | ⟨hk,hc⟩ | ⟨hk,_⟩ | ⟨hk,hc⟩
     ·rw [recText,hk] at h3
      simp only [show ((1:Int) == 1)=true from rfl,cond_true] at h3
      cases hc:(((rdRec (openT k i f).1).1.fText.size:Int) == 32 && (rdRec (openT k i f).1).1.fNum == 0 && isZ (rdRec (openT k i f).1).1.fThing)
      ·rw [hc] at h3;cases h3
      ·rw [Bool.and_eq_true,Bool.and_eq_true,beq_iff_eq,beq_iff_eq] at hc;omega
     ·omega
     ·rw [recText,hk] at h3
      simp only [show ((3:Int) == 1)=false from rfl,show ((3:Int) == 2)=false from rfl,show ((3:Int) == 3)=true from rfl,cond_true,cond_false] at h3
      cases hc:((thingText (rdRec (openT k i f).1).1.fThing).2 && isE (rdRec (openT k i f).1).1.fText && (rdRec (openT k i f).1).1.fNum == 0)
      ·rw [hc] at h3;cases h3
      ·rw [Bool.and_eq_true,beq_iff_eq] at hc;omega
     ·omega
    ·rw [h2];exact (by decide:(0:Int)≤9223372036854775807)
   ·exact ih (i+1) (fun f hf2=>hf f (List.mem_cons_of_mem _ hf2)) r hr
theorem readBook_num (k file:ByteArray):∀ r ∈ (readBook k file).1,r.fNum≤9223372036854775807:=recs_num k _ _ (unfT_small (file:=file)).1
theorem readBook_len (k file:ByteArray):(readBook k file).1.length≤20000:=Nat.le_trans (rdBook_len k _ _) (unfT_small (file:=file)).2.1
theorem p_impl_Mount {k:ByteArray} {d:SDisk} (hk:k.size≤900000000) (hd:d.fFiles.length≤140737488351232) (hf:∀ f ∈ d.fFiles,f.fText.size≤140737488351232):impl_Mount k d=some (mountT k d):=by
 have hfs:(fileT d nBook).1.size≤140737488351232:=fileT_small hf
 obtain ⟨r1,r2⟩:=readBook_end k (fileT d nBook).1
 have hl:=readBook_len k (fileT d nBook).1
 rw [impl_Mount,E_impl_Mount,show (⟨#[98,111,111,107]⟩:ByteArray)=nBook from rfl,show (⟨#[98,111,111,107,43]⟩:ByteArray)=nNew from rfl,p_impl_FileAt hd,Option.bind_some,p_impl_ReadBook hk hfs,Option.bind_some,p_impl_BookNew,Option.bind_some,p_impl_EnterAll (Nat.zero_le _) (by omega) (readBook_num _ _),Option.bind_some,p_impl_DiskOk hd,Option.bind_some,p_impl_fileAt hd,mountT]
 cases diskOk d
 ·rfl
 cases (enterAllB bookNew (readBook k (fileT d nBook).1).1).2
 ·rfl
 simp only [Option.bind_some,Bool.not_true,Bool.or_self,cond_false]
 by_cases he:(readBook k (fileT d nBook).1).2=((fileT d nBook).1.size:Int)
 ·rw [show ((readBook k (fileT d nBook).1).2 == ((fileT d nBook).1.size:Int))=true by rw [beq_iff_eq];exact he]
  cases decide (atF d nNew≥0) <;> rfl
 ·rw [show ((readBook k (fileT d nBook).1).2 == ((fileT d nBook).1.size:Int))=false by rw [beq_eq_false_iff_ne];exact he,cond_false,cond_false]
  have hg:(decide (0≤(readBook k (fileT d nBook).1).2) && decide ((readBook k (fileT d nBook).1).2≤((fileT d nBook).1.size:Int)))=true:=by rw [Bool.and_eq_true,decide_eq_true_eq,decide_eq_true_eq];exact ⟨r1,r2⟩
  simp only [hg,cond_true]
  cases decide (atF d nNew≥0) <;> rfl
theorem p_impl_ThingOf {b:SBook} {t:Int} (h:b.fThings.length≤140737488351232):impl_ThingOf b t=some (match thingIn b.fThings t with | some x=>(x,true) | none=>(zThing,false)):=by
 have hp:=placeIn_find t b.fThings 0
 simp only [impl_ThingOf,E_impl_ThingOf,p_impl_thingAt h,Option.bind_some]
 cases hq:placeIn b.fThings t 0 with
 | none=>rw [hq] at hp;simp only at hp ⊢;rw [hp];rfl
 | some j=>
  rw [hq] at hp
  simp only [Nat.sub_zero,Nat.zero_add] at hp ⊢
  obtain ⟨_,h1,h2⟩:=hp
  rw [h2,List.getElem?_eq_getElem h1]
  simp only [Int.toNat_natCast,getD_at h1]
  rw [show (decide ((j:Int)<0))=false from decide_eq_false (by omega),show (decide ((0:Int)≤(j:Int)))=true from decide_eq_true (by omega),show (decide ((j:Int)<(b.fThings.length:Int)))=true from decide_eq_true (by omega)]
  rfl
def liveAt (b:SBox) (i:Nat):Bool:=match thingIn b.fBook.fThings (b.fLives.getD i ⟨0,0⟩).fId with
 | some x=>x.fKind == 2 && (inR (b.fLives.getD i ⟨0,0⟩).fNext 0 x.fNext && (i == 0 || !decide ((b.fLives.getD (i - 1) ⟨0,0⟩).fId≥(b.fLives.getD i ⟨0,0⟩).fId)))
 | none=>false
def livesR (b:SBox):Nat→Nat→Bool
 | 0,_=>true
 | j+1,i=>liveAt b i && livesR b j (i+1)
def livesB (b:SBox):Bool:=livesR b b.fLives.length 0
end Go.Proofs.YtnmmhkanpfmaaaaGreatDoor.G
