/- An evaluator of the model's code over plain values: numbers, bools, strings, lists, structures; memory as a short list of objects. It tells in advance what a call answers. -/
import GoSem.Step
import Derived.Orders
namespace Go.Ev
set_option linter.unusedVariables false
set_option linter.unusedSimpArgs false
abbrev AA:=ByteArray
theorem AP {α β:Type}{a:α}{f:α->Option β}:(some a).bind f=f a:=rfl
theorem BR (n:Nat):Int.toNat (n:Int)=n:=rfl
theorem Aq {α:Type}{a b:α}:cond false a b=b:=rfl
theorem Ar {α:Type}{a b:α}:cond true a b=a:=rfl
theorem Ba {p:Prop}[Decidable p](h:p):decide p=true:=decide_eq_true h
theorem D6 {p:Prop}[Decidable p](h:¬p):decide p=false:=decide_eq_false h
theorem DN:(!true)=false:=rfl
theorem DJ (n:Nat):0<=n:=Nat.zero_le n
theorem Ea {n m:Nat}(h:Nat.beq n m=true):n=m:=Nat.eq_of_beq_eq_true h
inductive L (El:Nat->Type):Type where
 | int (k:IntKind) (n:Int)
 | bool (b:Bool)
 | str (s:AA)
 | BG (e:Nat) (xs:List (El e))
 | Ns (e:Nat) (xs:List (El e))
 | own (id:Nat)
 | sub (id off len:Nat)
 | JI
 | ptr (id off:Nat)
 | Ji (id i off:Nat)
 | PW (e:Nat) (x:El e) (off:Nat)
 | PX (g i:Nat)
 | J4
 | TA (i:Nat)
 | Wq
 | fn (f:FuncId)
 | any
 | junk
inductive U (El:Nat->Type):Type where
 | one (l:L El)
 | agg (cs:List (L El))
 | arr (e:Nat) (xs:List (El e))
abbrev Val (El:Nat->Type):=List (U El)
inductive Sh where
 | int (k:IntKind)
 | bool
 | str
 | sl (e:Nat)
 deriving DecidableEq
inductive aY where
 | bool
 | int (k:IntKind)
 | str
 | ptr (e:Nat)
 | sl (e:Nat)
 | st (fs:List (Nat×Nat))
 | arr (n e:Nat)
 | other
structure aX where
 size:Nat
 bytes:Nat
 kind:aY
structure Wu (El:Nat->Type) (e:Nat) where
 sh:List Sh
 enc:El e->List (L El)
 dec:List (L El)->El e
 z:El e
 int?:Option (PLift (Int=El e))
inductive AxP (El:Nat->Type):Type where
 | var (cs:List (L El))
 | sl (e:Nat) (xs:List (El e))
 | io (e:Nat) (xs:List (El e))
 | ar (e:Nat) (xs:List (El e))
 | dead
inductive Mode' where
 | rd
 | io
 | mv
 deriving DecidableEq
structure Perm where
 ca:Option Addr
 cc:Nat
 cb:Nat
 co:Nat
 cl:List Int
 ok:cl≠[]->ca=some ⟨cb,co,none⟩
def Perm.nil:Perm:=⟨none,0,0,0,[],fun h=>(h rfl).elim⟩
structure Ctx where
 El:Nat->Type
 ti:Nat->aX
 Aw:(e:Nat)->Wu El e
 mode:Nat->List Mode'
 cuts:Nat->Nat->Option (List Nat×List Nat×List (Nat×Nat)×List (Nat×Nat×Nat))
 tab:Nat->Nat×List Int
 pm:Perm
 fns:List Nat
variable (C:Ctx)
abbrev Env:=List (Nat×Val C.El)
abbrev Hp:=List (Nat×AxP C.El)
section
variable {El:Nat->Type}
def L.toInt:L El->Int
 | .int _ n=>n
 | _=>0
def L.toBool:L El->Bool
 | .bool b=>b
 | _=>false
def L.toStr:L El->AA
 | .str s=>s
 | _=>⟨#[]⟩
def L.Afo (e:Nat):L El->List (El e)
 | .BG e' xs=>if h:e'=e then h ▸ xs else []
 | _=>[]
def L.fits:Sh->L El->Bool
 | .int k,.int k' _=>decide (k=k')
 | .bool,.bool _=>true
 | .str,.str _=>true
 | .sl e,.BG e' _=>decide (e=e')
 | _,_=>false
def fitAll:List Sh->List (L El)->Bool
 | [],[]=>true
 | s::ss,l::ls=>match l.fits s with | true=>fitAll ss ls | false=>false
 | _,_=>false
def look {α:Type} (l:List (Nat×α)) (i:Nat) (d:α):α:=
 match l with
 | []=>d
 | (j,x)::r=>match Nat.beq i j with | true=>x | false=>look r i d
def cast {e e':Nat} (xs:List (El e)):Option (List (El e')):=if h:e=e' then some (h ▸ xs) else none
end
def bt (s:AA) (i:Int):Int:=if h:i.toNat<s.size then ((s[i.toNat]'h).toNat:Int) else 0
def bytesOf (s:AA):List Int:=s.data.toList.map fun b=>(b.toNat:Int)
def ofBytes (l:List Int):AA:=⟨(l.map fun n=>UInt8.ofNat n.toNat).toArray⟩
section
variable (C:Ctx) {R:Type}
def zeroCells:Nat->Nat->List (L C.El)
 | 0,_=>[]
 | n+1,t=>match (C.ti t).kind with
  | .bool=>[.bool false]
  | .int k=>[.int k 0]
  | .str=>[.str ⟨#[]⟩]
  | .ptr _=>[.Wq]
  | .sl _=>[.JI]
  | .st fs=>fs.flatMap fun f=>zeroCells n f.1
  | _=>[.junk]
def RQ:Nat->Nat->List Sh
 | 0,_=>[]
 | n+1,t=>match (C.ti t).kind with
  | .bool=>[.bool]
  | .int k=>[.int k]
  | .str=>[.str]
  | .sl e=>[.sl e]
  | .st fs=>fs.flatMap fun f=>RQ n f.1
  | _=>[]
def bD (t:Nat):Bool:=match (C.ti t).kind with
 | .st _=>true
 | .arr _ _=>true
 | _=>false
def AKX:Value->L C.El
 | .int k n=>.int k n
 | .bool b=>.bool b
 | .string s=>.str s
 | .slice none 0 0=>.JI
 | .pointer none=>.Wq
 | _=>.junk
def ofConst:Value->Val C.El
 | .agg cs=>[.agg (cs.toList.map (AKX C))]
 | v=>[.one (AKX C v)]
def CB (env:Env C):Operand->Val C.El
 | .tmp t=>look env t [.one .junk]
 | .const v=>ofConst C v
 | .global g=>[.one (.PX g 0)]
 | .func f=>[.one (.fn f)]
def Axz:List Sh->Bool
 | []=>true
 | .sl _::_=>false
 | _::ss=>Axz ss
def rowOf (hp:Hp C) (e:Nat):L C.El->Option (List (C.El e))
 | .own id=>match look hp id .dead with
  | .sl _ xs=>cast xs
  | .io _ xs=>cast xs
  | _=>none
 | .sub id off len=>match look hp id .dead with
  | .sl _ xs=>(cast xs).map fun xs=>(xs.drop off).take len
  | _=>none
 | .BG e' xs=>cast xs
 | .JI=>some []
 | _=>none
def wo (hp:Hp C) (e:Nat) (l:L C.El):Option (L C.El):=match l with
 | .J4=>some .J4
 | .any=>some .any
 | l=>match rowOf C hp e l with
  | some xs=>some (.BG e xs)
  | none=>none
def SB (hp:Hp C):List Sh->List (L C.El)->Option (List (L C.El))
 | [],[]=>some []
 | .sl e::ss,l::ls=>match wo C hp e l,SB hp ss ls with
  | some l',some r=>some (l'::r)
  | _,_=>none
 | s::ss,l::ls=>match l.fits s,SB hp ss ls with
  | true,some r=>some (l::r)
  | _,_=>none
 | _,_=>none
def E5:List (Option (Nat×Nat))->List Nat
 | []=>[]
 | some i::l=>i.1::E5 l
 | none::l=>E5 l
def Ja (hp:Hp C) (io pl:Bool):List Sh->List (L C.El)->Option (List (L C.El)×List (Option (Nat×Nat)))
 | [],[]=>some ([],[])
 | s::ss,l::ls=>match Ja hp io pl ss ls with
  | none=>none
  | some r=>match s with
   | .sl e=>match cond pl (Axz (C.Aw e).sh) true,l with
    | true,.own id=>match look hp id .dead with
     | .sl e' xs=>match cast (e':=e) xs with
      | some xs=>some (.Ns e xs::r.1,some (id,0)::r.2)
      | none=>none
     | .io e' xs=>match io,cast (e':=e) xs with
      | true,some xs=>some (.Ns e xs::r.1,some (id,0)::r.2)
      | _,_=>none
     | _=>none
    | true,.JI=>some (.Ns e []::r.1,none::r.2)
    | _,.J4=>match io with
     | true=>none
     | false=>some (.J4::r.1,r.2)
    | _,_=>none
   | s=>match l.fits s with
    | true=>some (l::r.1,r.2)
    | false=>none
 | _,_=>none
def into (mk:(e:Nat)->List (C.El e)->AxP C.El) (id:Nat):List (L C.El)->List (L C.El)×Hp C
 | []=>([],[])
 | .Ns e xs::ls=>let r:=into mk (id+1) ls;(.own id::r.1,(id,mk e xs)::r.2)
 | l::ls=>let r:=into mk id ls;(l::r.1,r.2)
def U.cells:U C.El->List (L C.El)
 | .one l=>[l]
 | .agg cs=>cs
 | .arr _ _=>[]
def U.TF:U C.El->Bool
 | .arr _ _=>true
 | _=>false
def U.like (u:U C.El) (cs:List (L C.El)):U C.El:=
 match u with
 | .one _=>match cs with
  | l::_=>.one l
  | []=>.one .junk
 | .agg _=>.agg cs
 | u=>u
def AUU (op:BinOp) (k:IntKind) (x y:Int):Option (L C.El):=
 match op with
 | .add=>some (.int k (k.wrap (x+y)))
 | .sub=>some (.int k (k.wrap (x - y)))
 | .mul=>some (.int k (k.wrap (x*y)))
 | .and=>some (.int k (k.wrap ((BitVec.ofInt k.bits x &&& BitVec.ofInt k.bits y).toNat)))
 | .or=>some (.int k (k.wrap ((BitVec.ofInt k.bits x ||| BitVec.ofInt k.bits y).toNat)))
 | .xor=>some (.int k (k.wrap ((BitVec.ofInt k.bits x ^^^ BitVec.ofInt k.bits y).toNat)))
 | .andNot=>some (.int k (k.wrap ((BitVec.ofInt k.bits x &&& ~~~ BitVec.ofInt k.bits y).toNat)))
 | .eql=>some (.bool (x == y))
 | .neq=>some (.bool (x != y))
 | .lss=>some (.bool (decide (x<y)))
 | .leq=>some (.bool (decide (x<=y)))
 | .gtr=>some (.bool (decide (x > y)))
 | .geq=>some (.bool (decide (x>=y)))
 | _=>none
def AUW (op:BinOp) (x y:AA):Option (L C.El):=
 match op with
 | .eql=>some (.bool (x.toList == y.toList))
 | .neq=>some (.bool (!(x.toList == y.toList)))
 | .lss=>some (.bool (Op.bytesLess x.toList y.toList))
 | .leq=>some (.bool (Op.bytesLess x.toList y.toList || x.toList == y.toList))
 | .gtr=>some (.bool (!(Op.bytesLess x.toList y.toList || x.toList == y.toList)))
 | .geq=>some (.bool (!(Op.bytesLess x.toList y.toList)))
 | _=>none
def AUZ:List (L C.El)->List (L C.El)->Option Bool
 | [],[]=>some true
 | .int k x::ls,.int k' y::rs=>match decide (k=k'),AUZ ls rs with
  | true,some b=>some ((x == y) && b)
  | _,_=>none
 | .bool x::ls,.bool y::rs=>match AUZ ls rs with
  | some b=>some ((x == y) && b)
  | none=>none
 | .str x::ls,.str y::rs=>match AUZ ls rs with
  | some b=>some ((x == y) && b)
  | none=>none
 | _,_=>none
def when (b:Bool) (k:R) (fail:R):R:=cond b k fail
def YM (op:BinOp) (t:Nat) (xv yv:Val C.El) (K:Val C.El->R) (fail:R):R:=
 match op,xv,yv with
 | .shl,[.one (.int k x)],[.one (.int _ y)]=>when (decide (0<=y)) (K [.one (.int k (k.wrap (x*2 ^ (min y.toNat k.bits))))]) fail
 | .shr,[.one (.int k x)],[.one (.int _ y)]=>when (decide (0<=y)) (K [.one (.int k (x.fdiv (2 ^ (min y.toNat k.bits))))]) fail
 | .quo,[.one (.int k x)],[.one (.int k' y)]=>match decide (k=k') with
  | true=>when (!(y == 0)) (K [.one (.int k (k.wrap (x.tdiv y)))]) fail
  | false=>fail
 | .rem,[.one (.int k x)],[.one (.int k' y)]=>match decide (k=k') with
  | true=>when (!(y == 0)) (K [.one (.int k (x.tmod y))]) fail
  | false=>fail
 | .add,[.one (.str x)],[.one (.str y)]=>when (decide (x.size+y.size<=9223372036854775807)) (K [.one (.str (x++y))]) fail
 | op,[.one (.int k x)],[.one (.int k' y)]=>match decide (k=k'),AUU C op k x y with
  | true,some l=>K [.one l]
  | _,_=>fail
 | op,[.one (.str x)],[.one (.str y)]=>match AUW C op x y with
  | some l=>K [.one l]
  | none=>fail
 | .eql,[.one (.bool x)],[.one (.bool y)]=>match (C.ti t).kind with
  | .bool=>K [.one (.bool (x == y))]
  | _=>fail
 | .neq,[.one (.bool x)],[.one (.bool y)]=>match (C.ti t).kind with
  | .bool=>K [.one (.bool (!(x == y)))]
  | _=>fail
 | _,_,_=>fail
def UL (hp:Hp C):L C.El->Option Nat
 | .own id=>match look hp id .dead with
  | .sl _ xs=>some xs.length
  | .io _ xs=>some xs.length
  | _=>none
 | .sub id _ len=>match look hp id .dead with
  | .sl _ _=>some len
  | _=>none
 | .BG _ xs=>some xs.length
 | .J4=>some C.pm.cl.length
 | .JI=>some 0
 | _=>none
def setCells (cs:List (L C.El)) (off:Nat):List (L C.El)->List (L C.El)
 | []=>cs
 | l::ls=>setCells (cs.set off l) (off+1) ls
def Ava (fs:List (Nat×Nat)) (i:Nat):Nat:=match fs[i]? with
 | some f=>f.2
 | none=>0
def fieldTy (fs:List (Nat×Nat)) (i:Nat):Nat:=match fs[i]? with
 | some f=>f.1
 | none=>0
def YP:L C.El->Bool
 | .junk=>true
 | _=>false
def UR:List (L C.El)->Bool
 | []=>true
 | l::ls=>match YP C l with | true=>false | false=>UR ls
def jg (fs:List (Nat×Nat)):List (L C.El)->List (Nat×Val C.El)->Option (List (L C.El))
 | cs,[]=>some cs
 | cs,(i,[u])::ps=>match fs[i]? with
  | some f=>match Nat.beq (U.cells C u).length (C.ti f.1).size,Nat.ble (f.2+(U.cells C u).length) cs.length,U.TF C u,UR C (U.cells C u) with
   | true,true,false,true=>jg fs (setCells C cs f.2 (U.cells C u)) ps
   | _,_,_,_=>none
  | none=>none
 | _,_=>none
def freeze (hp:Hp C):Hp C->List (L C.El)->Option (List (L C.El)×Hp C)
 | dl,[]=>some ([],dl)
 | dl,l::ls=>match l with
  | .own id=>match look (dl++hp) id .dead with
   | .sl e xs=>match freeze hp ((id,.dead)::dl) ls with
    | some r=>some (.BG e xs::r.1,r.2)
    | none=>none
   | _=>none
  | .JI=>match freeze hp dl ls with
   | some r=>some (.JI::r.1,r.2)
   | none=>none
  | .int k n=>match freeze hp dl ls with
   | some r=>some (.int k n::r.1,r.2)
   | none=>none
  | .bool b=>match freeze hp dl ls with
   | some r=>some (.bool b::r.1,r.2)
   | none=>none
  | .str s=>match freeze hp dl ls with
   | some r=>some (.str s::r.1,r.2)
   | none=>none
  | _=>none
def KN:List Sh->List (L C.El)->List (L C.El)
 | .sl e::ss,.JI::ls=>.BG e []::KN ss ls
 | _::ss,l::ls=>l::KN ss ls
 | _,ls=>ls
def rowsOf (e:Nat) (hp:Hp C):Hp C->List (C.El e)->List (Nat×Val C.El)->Option (List (C.El e)×Hp C)
 | dl,xs,[]=>some (xs,dl)
 | dl,xs,(i,[u])::ps=>match freeze C hp dl (U.cells C u),U.TF C u,Nat.blt i xs.length with
  | some r,false,true=>match fitAll (C.Aw e).sh (KN C (C.Aw e).sh r.1) with
   | true=>rowsOf e hp r.2 (xs.set i ((C.Aw e).dec (KN C (C.Aw e).sh r.1))) ps
   | false=>none
  | _,_,_=>none
 | _,_,_=>none
def place (hp:Hp C):L C.El->Option (List (L C.El)×Nat)
 | .ptr id off=>match look hp id .dead with
  | .var cs=>some (cs,off)
  | _=>none
 | .Ji id i off=>match look hp id .dead with
  | .sl e xs=>some ((C.Aw e).enc (xs.getD i (C.Aw e).z),off)
  | .io e xs=>some ((C.Aw e).enc (xs.getD i (C.Aw e).z),off)
  | .ar e xs=>some ((C.Aw e).enc (xs.getD i (C.Aw e).z),off)
  | _=>none
 | .PW e x off=>some ((C.Aw e).enc x,off)
 | _=>none
def wB (cs:List (L C.El)) (off:Nat):Option (L C.El):=match cs with
 | []=>none
 | l::ls=>match off with
  | 0=>some l
  | off+1=>wB ls off
def Pg (t:Nat) (cs:List (L C.El)) (off:Nat):Option (U C.El):=
 match (C.ti t).kind with
 | .st _=>match Nat.ble (off+(C.ti t).size) cs.length with
  | true=>some (.agg ((cs.drop off).take (C.ti t).size))
  | false=>none
 | .arr _ _=>none
 | .other=>none
 | _=>match wB C cs off with
  | some l=>some (.one l)
  | none=>none
def Og (hp:Hp C) (t:Nat) (l:L C.El):Option (U C.El):=
 match (C.ti t).kind with
 | .arr n e'=>match l with
  | .ptr id 0=>match look hp id .dead with
   | .ar e xs=>match Nat.beq e e',Nat.beq n xs.length with | true,true=>some (.arr e xs) | _,_=>none
   | _=>none
  | _=>none
 | .int .u32=>match l with
  | .PX g i=>match Nat.blt i (C.tab g).2.length with
   | true=>some (.one (.int .u32 ((C.tab g).2.getD i 0)))
   | false=>none
  | _=>match place C hp l with
   | some (cs,off)=>Pg C t cs off
   | none=>none
 | .int .u8=>match l with
  | .TA i=>match Nat.blt i C.pm.cl.length with
   | true=>some (.one (.int .u8 (C.pm.cl.getD i 0)))
   | false=>none
  | _=>match place C hp l with
   | some (cs,off)=>Pg C t cs off
   | none=>none
 | _=>match place C hp l with
  | some (cs,off)=>Pg C t cs off
  | none=>none
def AwW (hp:Hp C) (t:Nat) (l:L C.El):Option (U C.El):=
 match (C.ti t).kind with
 | .arr _ e'=>match l with
  | .ptr id 0=>match look hp id .dead with
   | .ar e xs=>match Nat.beq e e' with | true=>some (.arr e xs) | false=>none
   | _=>none
  | _=>none
 | .int .u32=>match l with
  | .PX g i=>some (.one (.int .u32 ((C.tab g).2.getD i 0)))
  | _=>Og C hp t l
 | .int .u8=>match l with
  | .TA i=>some (.one (.int .u8 (C.pm.cl.getD i 0)))
  | _=>Og C hp t l
 | _=>Og C hp t l
def TJ (t:Nat) (l:L C.El) (u:U C.El):Bool:=
 match (C.ti t).kind with
 | .arr n _=>match u with
  | .arr _ xs=>Nat.beq n xs.length
  | _=>false
 | .int .u32=>match l with
  | .PX g i=>Nat.blt i (C.tab g).2.length
  | _=>true
 | .int .u8=>match l with
  | .TA i=>Nat.blt i C.pm.cl.length
  | _=>true
 | _=>true
def AT6:AxP C.El->Bool
 | .dead=>true
 | _=>false
def YQ (t:Nat) (u:U C.El):Option (List (L C.El)):=
 match (C.ti t).kind with
 | .arr _ _=>none
 | .other=>none
 | .st _=>match u with
  | .agg ls=>match Nat.beq ls.length (C.ti t).size,UR C ls with
   | true,true=>some ls
   | _,_=>none
  | _=>none
 | _=>match u with
  | .one l=>match YP C l with
   | true=>none
   | false=>some [l]
  | _=>none
def Ayx (hp:Hp C) (t:Nat) (a:L C.El) (u:U C.El):Option (Hp C):=
 match a with
 | .ptr id off=>match look hp id .dead with
  | .var cs=>match YQ C t u with
   | some ls=>match Nat.ble (off+ls.length) cs.length with
    | true=>some [(id,.var (setCells C cs off ls))]
    | false=>none
   | none=>none
  | .ar e xs=>match (C.ti t).kind with
   | .arr m e2=>match u with
    | .arr e' ys=>match cast (e':=e) ys with
     | some ys=>match Nat.beq off 0,Nat.beq ys.length xs.length,Nat.beq m ys.length,Nat.beq e2 e with
      | true,true,true,true=>some [(id,.ar e ys)]
      | _,_,_,_=>none
     | none=>none
    | _=>none
   | _=>none
  | _=>none
 | .Ji id i off=>match look hp id .dead with
  | .sl e xs=>match YQ C t u with
   | some ls=>match freeze C hp [] ls with
    | some r=>
     let cs:=KN C (C.Aw e).sh (setCells C ((C.Aw e).enc (xs.getD i (C.Aw e).z)) off r.1);match Nat.ble (off+ls.length) (C.ti e).size,fitAll (C.Aw e).sh cs,AT6 C (look (r.2++hp) id .dead) with
     | true,true,false=>some ((id,.sl e (xs.set i ((C.Aw e).dec cs)))::r.2)
     | _,_,_=>none
    | none=>none
   | none=>none
  | .io e xs=>match YQ C t u with
   | some ls=>
    let cs:=setCells C ((C.Aw e).enc (xs.getD i (C.Aw e).z)) off ls;match Nat.ble (off+ls.length) (C.ti e).size,fitAll (C.Aw e).sh cs,Axz (C.Aw e).sh with
    | true,true,true=>some [(id,.io e (xs.set i ((C.Aw e).dec cs)))]
    | _,_,_=>none
   | none=>none
  | .ar e xs=>match YQ C t u with
   | some ls=>
    let cs:=setCells C ((C.Aw e).enc (xs.getD i (C.Aw e).z)) off ls;match Nat.ble (off+ls.length) (C.ti e).size,fitAll (C.Aw e).sh cs,Axz (C.Aw e).sh with
    | true,true,true=>some [(id,.ar e (xs.set i ((C.Aw e).dec cs)))]
    | _,_,_=>none
   | none=>none
  | _=>none
 | _=>none
def AKU (hp:Hp C) (t:Nat) (a:L C.El) (u:U C.El):Option (Hp C):=
 match (C.ti t).kind with
 | .arr _ e2=>match a with
  | .ptr id off=>match look hp id .dead with
   | .ar e _=>match u with
    | .arr e' ys=>match cast (e':=e) ys with
     | some ys=>match Nat.beq off 0,Nat.beq e2 e with
      | true,true=>some [(id,.ar e ys)]
      | _,_=>none
     | none=>none
    | _=>none
   | _=>Ayx C hp t a u
  | _=>Ayx C hp t a u
 | _=>Ayx C hp t a u
def AKV (hp:Hp C) (t:Nat) (a:L C.El) (u:U C.El):Bool:=
 match (C.ti t).kind with
 | .arr m _=>match a with
  | .ptr id _=>match look hp id .dead with
   | .ar _ xs=>match u with
    | .arr _ ys=>Nat.beq ys.length xs.length && Nat.beq m ys.length
    | _=>true
   | _=>true
  | _=>true
 | _=>true
def site (d j:Nat):Nat:=64*d+j
def VP (t:Nat):Option Nat:=match (C.ti t).kind with
 | .ptr e=>some e
 | _=>none
def give (hp:Hp C):List Mode'->List Nat->List (Val C.El)->Option (List (Option (U C.El))×List (Option (Nat×Nat)))
 | _,[],[]=>some ([],[])
 | ms,t::ts,[u]::us=>match give hp (ms.drop 1) ts us with
  | none=>none
  | some q=>match VP C t with
   | some e=>match u with
    | .one (.ptr id off)=>match look hp id .dead with
     | .var cs=>match Nat.ble (off+(C.ti e).size) cs.length && Nat.blt 0 (C.ti e).size,Ja C hp false true (RQ C 9 e) ((cs.drop off).take (C.ti e).size) with
      | true,some r=>some (some (.agg r.1)::q.1,some (id,off)::(r.2++q.2))
      | _,_=>none
     | _=>none
    | _=>none
   | none=>match ms.headD .rd with
    | .rd=>some (none::q.1,q.2)
    | .io=>match U.TF C u,Ja C hp true true (RQ C 9 t) (U.cells C u) with
     | false,some r=>some (some (U.like C u r.1)::q.1,r.2++q.2)
     | _,_=>none
    | .mv=>match U.TF C u,Ja C hp false true (RQ C 9 t) (U.cells C u) with
     | false,some r=>some (some (U.like C u r.1)::q.1,r.2++q.2)
     | _,_=>none
 | _,_,_=>none
def hand (hp:Hp C):List (Option (U C.El))->List Nat->List (Val C.El)->Option (List (U C.El))
 | [],[],[]=>some []
 | g::gs,t::ts,[u]::us=>match hand hp gs ts us with
  | none=>none
  | some q=>match g with
   | some v=>some (v::q)
   | none=>match u with
    | .arr e xs=>some (.arr e xs::q)
    | .one (.fn f)=>some (.one (.fn f)::q)
    | u=>match SB C hp (RQ C 9 t) (U.cells C u) with
     | some r=>some (U.like C u r::q)
     | none=>none
 | _,_,_=>none
def Axw (hp:Hp C):List (L C.El)->List (L C.El)->Option (Hp C)
 | [],[]=>some []
 | .own id::ls,.Ns e xs::rs=>match look hp id .dead,Axw hp ls rs with
  | .sl e' _,some r=>match Nat.beq e e' with
   | true=>some ((id,.sl e xs)::r)
   | false=>none
  | .io e' _,some r=>match Nat.beq e e' with
   | true=>some ((id,.io e xs)::r)
   | false=>none
  | _,_=>none
 | _::ls,_::rs=>Axw hp ls rs
 | _,_=>none
def back (hp:Hp C) (d:Nat):Nat->List Mode'->List Nat->List (Val C.El)->List (U C.El)->Option (Hp C×Hp C)
 | _,_,[],[],[]=>some ([],[])
 | n,ms,t::ts,[u]::us,rs=>match VP C t with
  | some e=>match u,rs with
   | .one (.ptr id off),.agg cs::rs=>match look hp id .dead with
    | .var old=>match Nat.beq cs.length (C.ti e).size with
     | true=>let r:=into C .sl (site d n) cs
      match back hp d (n+r.2.length) (ms.drop 1) ts us rs with
      | some q=>some ((id,.var (setCells C old off r.1))::q.1,r.2++q.2)
      | none=>none
     | false=>none
    | _=>none
   | _,_=>none
  | none=>match ms.headD .rd with
   | .io=>match rs with
    | r::rs=>match Axw C hp (U.cells C u) (U.cells C r),back hp d n (ms.drop 1) ts us rs with
     | some h,some q=>some (h++q.1,q.2)
     | _,_=>none
    | []=>none
   | _=>back hp d n (ms.drop 1) ts us rs
 | _,_,_,_,_=>none
def AyQ (d:Nat):Nat->List (U C.El)->Val C.El×Hp C×Nat
 | n,[]=>([],[],n)
 | n,.arr e xs::us=>let q:=AyQ d n us;(.arr e xs::q.1,q.2)
 | n,.agg (.ptr _ _::cs)::us=>let r:=into C .sl (site d (n+1)) cs;let q:=AyQ d (n+1+r.2.length) us;(.one (.ptr (site d n) 0)::q.1,(site d n,.var r.1)::(r.2++q.2.1),q.2.2)
 | n,u::us=>let r:=into C .sl (site d n) (U.cells C u);let q:=AyQ d (n+r.2.length) us;(U.like C u r.1::q.1,r.2++q.2.1,q.2.2)
def vals (env:Env C):List Operand->List (Val C.El)
 | []=>[]
 | x::xs=>CB C env x::vals env xs
def parts (env:Env C):List (Nat×Operand)->List (Nat×Val C.El)
 | []=>[]
 | (i,x)::ps=>(i,CB C env x)::parts env ps
def Bj {α:Type} (l:List (Nat×α)) (i:Nat):Bool:=match l with
 | []=>false
 | (j,_)::r=>match Nat.beq i j with | true=>true | false=>Bj r i
def AT5 (t:Nat):Bool:=match (C.ti t).kind with
 | .sl _=>true
 | .str=>true
 | _=>false
def jZ (hp:Hp C) (e:Nat):L C.El->Option (List (C.El e))
 | .str b=>match (C.Aw e).int?,(C.ti e).kind with
  | some ⟨h⟩,.int .u8=>some (h ▸ bytesOf b)
  | _,_=>none
 | .BG e' xs=>match Axz (C.Aw e).sh with
  | true=>cast xs
  | false=>none
 | x=>rowOf C hp e x
def cutAt (GJ hiv:Option (Val C.El)) (n:Nat) (k:Nat->Nat->R) (fail:R):R:=match GJ,hiv with
 | none,none=>k 0 n
 | some [.one (.int _ a)],none=>when (decide (0<=a) && decide (a<=(n:Int))) (k a.toNat n) fail
 | none,some [.one (.int _ b)]=>when (decide (0<=b) && decide (b<=(n:Int))) (k 0 b.toNat) fail
 | some [.one (.int _ a)],some [.one (.int _ b)]=>when (decide (0<=a) && decide (a<=b) && decide (b<=(n:Int))) (k a.toNat b.toNat) fail
 | _,_=>fail
def inB (i:Nat):List Nat->Bool
 | []=>false
 | j::l=>match Nat.beq i j with | true=>true | false=>inB i l
def nodupB:List Nat->Bool
 | []=>true
 | i::l=>match inB i l with | true=>false | false=>nodupB l
def fresh (hp:Hp C) (d:Nat) (k:R) (fail:R):R:=match Bj hp (site d 0) with
 | true=>fail
 | false=>k
def wO:List Nat->List Nat->Bool
 | [],[]=>true
 | i::l,j::r=>match Nat.beq i j with | true=>wO l r | false=>false
 | _,_=>false
def AT7 (P:Program) (g:Nat):Option (List Nat):=match P.funcs[g]? with
 | some fn=>some fn.params.toList
 | none=>none
def vw (rec:Nat->U C.El->U C.El->Option Bool) (xs ys:List (L C.El)):List Field->Option Bool
 | []=>some true
 | f::fs=>match f.name == "_" with
  | true=>vw rec xs ys fs
  | false=>match Pg C f.type xs f.offset,Pg C f.type ys f.offset with
   | some u,some v=>match rec f.type u v,vw rec xs ys fs with
    | some b,some r=>some (b && r)
    | _,_=>none
   | _,_=>none
def Wv (P:Program):Nat->Nat->U C.El->U C.El->Option Bool
 | 0,_,_,_=>none
 | d+1,t,u,v=>match u,v with
  | .agg xs,.agg ys=>match P.underlying t,P.stoodInHeld t with
   | some (.struct fs),false=>vw C (Wv P d) xs ys fs.toList
   | _,_=>none
  | .one (.int k x),.one (.int k' y)=>match P.underlying t,decide (k=k') with
   | some (.int _),true=>some (x == y)
   | _,_=>none
  | .one (.bool x),.one (.bool y)=>match P.underlying t with
   | some .bool=>some (x == y)
   | _=>none
  | .one (.str x),.one (.str y)=>match P.underlying t with
   | some .string=>some (x.toList == y.toList)
   | _=>none
  | _,_=>none
def AdG (P:Program) (op:BinOp) (t:Nat) (xv yv:Val C.El):Option Bool:=match xv,yv with
 | [.agg xs],[.agg ys]=>match op,P.eqGuardType P.depth t with
  | .eql,false=>Wv C P 9 t (.agg xs) (.agg ys)
  | .neq,false=>match Wv C P 9 t (.agg xs) (.agg ys) with
   | some b=>some (!b)
   | none=>none
  | _,_=>none
 | _,_=>none
def jY (P:Program) (AC:Nat->Nat) (call:Nat->List (U C.El)->(List (U C.El)->R)->R) (env:Env C) (hp:Hp C) (d g:Nat) (args:Array Operand) (K:Val C.El->Hp C->R) (fail:R):R:=
 match AT7 P g with
  | none=>fail
  | some ts=>match give C hp (C.mode g) ts (vals C env args.toList) with
  | some q=>match nodupB (E5 q.2),hand C (((E5 q.2).map fun i=>(i,.dead))++hp) q.1 ts (vals C env args.toList) with
   | true,some us=>call g us fun rs=>
    let r:=AyQ C d 0 (rs.take (AC g));match back C hp d 32 (C.mode g) ts (vals C env args.toList) (rs.drop (AC g)) with
    | some h=>match nodupB ((r.2.1++h.2).map fun x=>x.1) && ((r.2.1++h.2).all fun x=> !Bj hp x.1 && Nat.beq (x.1 / 64) d) with
     | true=>K r.1 (h.1++(r.2.1++(h.2++((E5 q.2).map fun i=>(i,.dead)))))
     | false=>fail
    | none=>fail
   | _,_=>fail
  | none=>fail
def AEU (f:Nat) (k:Nat->R) (fail:R):List Nat->R
 | []=>fail
 | g::gs=>cond (Nat.beq f g) (k g) (AEU f k fail gs)
def Ci (P:Program) (AC:Nat->Nat) (call:Nat->List (U C.El)->(List (U C.El)->R)->R) (env:Env C) (hp:Hp C) (d:Nat) (op:Op) (K:Val C.El->Hp C->R) (fail:R):R:=
 match op with
 | .move x=>K (CB C env x) []
 | .assign x=>K (CB C env x) []
 | .pick c a b=>match CB C env c with
  | [.one (.bool p)]=>cond p (K (CB C env a) []) (K (CB C env b) [])
  | _=>fail
 | .alloc t=>match (C.ti t).kind with
  | .arr n e=>fresh C hp d (K [.one (.ptr (site d 0) 0)] [(site d 0,.ar e (List.replicate n (C.Aw e).z))]) fail
  | .other=>fail
  | _=>fresh C hp d (K [.one (.ptr (site d 0) 0)] [(site d 0,.var (zeroCells C 9 t))]) fail
 | .box t x=>match CB C env x with
  | [.arr e xs]=>fresh C hp d (K [.one (.ptr (site d 0) 0)] [(site d 0,.ar e xs)]) fail
  | [u]=>match UR C (U.cells C u) with
   | true=>fresh C hp d (K [.one (.ptr (site d 0) 0)] [(site d 0,.var (U.cells C u))]) fail
   | false=>fail
  | _=>fail
 | .build t ps=>match (C.ti t).kind with
  | .st fs=>match jg C fs (zeroCells C 9 t) (parts C env ps.toList) with
   | some cs=>K [.agg cs] []
   | none=>fail
  | .arr n e=>match rowsOf C e hp [] (List.replicate n (C.Aw e).z) (parts C env ps.toList),Axz (C.Aw e).sh with
   | some r,true=>K [.arr e r.1] r.2
   | _,_=>fail
  | _=>fail
 | .buildSlice t n ps=>match (C.ti t).kind with
  | .sl e=>match rowsOf C e hp [] (List.replicate n (C.Aw e).z) (parts C env ps.toList) with
   | some r=>when (Nat.ble (n*(C.ti e).size) 16777216) (fresh C (r.2++hp) d (K [.one (.own (site d 0))] ((site d 0,.sl e r.1)::r.2)) fail) fail
   | none=>fail
  | _=>fail
 | .load t a=>match CB C env a with
  | [.one l]=>match AwW C hp t l with
   | some u=>when (TJ C t l u) (K [u] []) fail
   | none=>fail
  | _=>fail
 | .store t a x=>match CB C env a,CB C env x with
  | [.one l],[u]=>match AKU C hp t l u with
   | some h=>when (AKV C hp t l u) (K [.one .junk] h) fail
   | none=>fail
  | _,_=>fail
 | .nilCheck x=>match CB C env x with
  | [.one (.ptr id off)]=>K [.one (.ptr id off)] []
  | [.one (.Ji id i off)]=>K [.one (.Ji id i off)] []
  | [.one (.PW e x off)]=>K [.one (.PW e x off)] []
  | [.one (.PX g i)]=>K [.one (.PX g i)] []
  | [.one (.TA i)]=>K [.one (.TA i)] []
  | _=>fail
 | .binOp op t x y _=>match AdG C P op t (CB C env x) (CB C env y) with
  | some b=>K [.one (.bool b)] []
  | none=>YM C op t (CB C env x) (CB C env y) (fun v=>K v []) fail
 | .unOp op _ x=>match op,CB C env x with
  | .not,[.one (.bool b)]=>K [.one (.bool (!b))] []
  | .neg,[.one (.int k n)]=>K [.one (.int k (k.wrap (0 - n)))] []
  | .xor,[.one (.int k n)]=>K [.one (.int k (k.wrap ((BitVec.ofInt k.bits (if k.signed then -1 else k.max) ^^^ BitVec.ofInt k.bits n).toNat)))] []
  | _,_=>fail
 | .convert src dst x=>match (C.ti src).kind,(C.ti dst).kind,CB C env x with
  | .int _,.int k,[.one (.int _ n)]=>K [.one (.int k (k.wrap n))] []
  | .str,.str,[.one (.str s)]=>K [.one (.str s)] []
  | .str,.sl e,[.one (.str s)]=>match (C.Aw e).int?,(C.ti e).kind with
   | some ⟨h⟩,.int .u8=>when (decide (s.size<=9223372036854775807)) (fresh C hp d (K [.one (.own (site d 0))] [(site d 0,.sl e (h ▸ bytesOf s))]) fail) fail
   | _,_=>fail
  | .sl e,.str,[.one l]=>match (C.Aw e).int?,(C.ti e).kind,rowOf C hp e l with
   | some ⟨h⟩,.int .u8,some xs=>K [.one (.str (ofBytes (h ▸ xs)))] []
   | _,_,_=>fail
  | _,_,_=>fail
 | .fieldAddr s x f=>match (C.ti s).kind with
  | .st fs=>match fs[f]? with
   | some q=>match Nat.beq (C.ti q.1).size 0,CB C env x with
    | false,[.one (.ptr id off)]=>K [.one (.ptr id (off+q.2))] []
    | false,[.one (.Ji id i off)]=>K [.one (.Ji id i (off+q.2))] []
    | false,[.one (.PW e x off)]=>K [.one (.PW e x (off+q.2))] []
    | _,_=>fail
   | none=>fail
  | _=>fail
 | .field s x f=>match (C.ti s).kind,CB C env x with
  | .st fs,[.agg cs]=>match fs[f]? with
   | some q=>match Pg C q.1 cs q.2 with
    | some u=>K [u] []
    | none=>fail
   | none=>fail
  | _,_=>fail
 | .indexAddr t x i=>match (C.ti t).kind,CB C env x,CB C env i with
  | .sl e,[.one (.own id)],[.one (.int _ n)]=>match look hp id .dead with
   | .sl e' xs=>match Nat.beq e e' with
    | true=>when (decide (0<=n) && decide (n<(xs.length:Int))) (K [.one (.Ji id n.toNat 0)] []) fail
    | false=>fail
   | .io e' xs=>match Nat.beq e e' with
    | true=>when (decide (0<=n) && decide (n<(xs.length:Int))) (K [.one (.Ji id n.toNat 0)] []) fail
    | false=>fail
   | _=>fail
  | .sl e,[.one (.sub id off len)],[.one (.int _ n)]=>match look hp id .dead with
   | .sl e' _=>match Nat.beq e e' with
    | true=>when (decide (0<=n) && decide (n<(len:Int))) (K [.one (.Ji id (off+n.toNat) 0)] []) fail
    | false=>fail
   | _=>fail
  | .sl e,[.one (.BG e' xs)],[.one (.int _ n)]=>match Nat.beq e e' with
   | true=>when (decide (0<=n) && decide (n<(xs.length:Int))) (K [.one (.PW e' (xs.getD n.toNat (C.Aw e').z) 0)] []) fail
   | false=>fail
  | .sl e,[.one .J4],[.one (.int _ n)]=>match (C.ti e).kind with
   | .int .u8=>when (decide (0<=n) && decide (n<(C.pm.cl.length:Int))) (K [.one (.TA n.toNat)] []) fail
   | _=>fail
  | .arr m e,[.one (.ptr id 0)],[.one (.int _ n)]=>match look hp id .dead with
   | .ar e' xs=>match Nat.beq e e' with
    | true=>when (Nat.beq m xs.length) (when (decide (0<=n) && decide (n<(xs.length:Int))) (K [.one (.Ji id n.toNat 0)] []) fail) fail
    | false=>fail
   | _=>fail
  | .arr m e,[.one (.PX g 0)],[.one (.int _ n)]=>match (C.ti e).kind,Nat.beq m (C.tab g).2.length with
   | .int .u32,true=>when (decide (0<=n) && decide (n<((C.tab g).2.length:Int))) (K [.one (.PX g n.toNat)] []) fail
   | _,_=>fail
  | _,_,_=>fail
 | .index t x i=>match (C.ti t).kind,CB C env x,CB C env i with
  | .str,[.one (.str s)],[.one (.int _ n)]=>when (decide (0<=n) && decide (n<(s.size:Int))) (K [.one (.int .u8 (bt s n))] []) fail
  | .arr m e,[.arr e' xs],[.one (.int _ n)]=>match Nat.beq e e',bD C e,(C.Aw e').enc (xs.getD n.toNat (C.Aw e').z) with
   | true,false,[l]=>when (Nat.beq m xs.length) (when (decide (0<=n) && decide (n<(xs.length:Int))) (K [.one l] []) fail) fail
   | _,_,_=>fail
  | _,_,_=>fail
 | .makeSlice t n c=>match (C.ti t).kind,CB C env n,CB C env c with
  | .sl e,[.one (.int .i64 n)],[.one (.int .i64 c)]=>when (decide (0<=n) && decide (n<=c) && decide (c<=9223372036854775807) && decide (c.toNat*(C.ti e).bytes<=140737488355328)) (fresh C hp d (K [.one (.own (site d 0))] [(site d 0,.sl e (List.replicate n.toNat (C.Aw e).z))]) fail) fail
  | _,_,_=>fail
 | .slice t x lo hi none=>
  match (C.ti t).kind,CB C env x with
  | .str,[.one (.str s)]=>cutAt C (lo.map (CB C env)) (hi.map (CB C env)) s.size (fun a b=>K [.one (.str (s.extract a b))] []) fail
  | .sl e,[.one (.BG e' xs)]=>match Nat.beq e e' with
   | true=>cutAt C (lo.map (CB C env)) (hi.map (CB C env)) xs.length (fun a b=>K [.one (.BG e' ((xs.take b).drop a))] []) fail
   | false=>fail
  | .sl e,[.one (.own id)]=>match look hp id .dead with
   | .sl e' xs=>match Nat.beq e e' with
    | true=>cutAt C (lo.map (CB C env)) (hi.map (CB C env)) xs.length (fun a b=>K [.one (.sub id a (b - a))] []) fail
    | false=>fail
   | _=>fail
  | .sl e,[.one (.sub id off n)]=>match look hp id .dead with
   | .sl e' _=>match Nat.beq e e' with
    | true=>cutAt C (lo.map (CB C env)) (hi.map (CB C env)) n (fun a b=>K [.one (.sub id (off+a) (b - a))] []) fail
    | false=>fail
   | _=>fail
  | _,_=>fail
 | .extract x i=>match CB C env x with
  | [_]=>fail
  | us=>match us[i]? with
   | some u=>K [u] []
   | none=>fail
 | .call { callee:=.builtin .len,args,argTypes }=>match Nat.blt 0 argTypes.size with
  | false=>fail
  | true=>match (C.ti (argTypes.getD 0 0)).kind,vals C env args.toList with
  | .str,[[.one (.str s)]]=>K [.one (.int .i64 s.size)] []
  | .sl _,[[.one l]]=>match UL C hp l with
   | some n=>K [.one (.int .i64 n)] []
   | none=>fail
  | .arr n _,[_]=>K [.one (.int .i64 n)] []
  | _,_=>fail
 | .call { callee:=.builtin .min,args,.. }=>match vals C env args.toList with
  | [[.one (.int k x)],[.one (.int k' y)]]=>match decide (k=k') with
   | true=>K [.one (.int k (if y<x then y else x))] []
   | false=>fail
  | _=>fail
 | .call { callee:=.builtin .max,args,.. }=>match vals C env args.toList with
  | [[.one (.int k x)],[.one (.int k' y)]]=>match decide (k=k') with
   | true=>K [.one (.int k (if y > x then y else x))] []
   | false=>fail
  | _=>fail
 | .call { callee:=.builtin .append,args,argTypes }=>match Nat.beq argTypes.size 2 with
  | false=>fail
  | true=>match (C.ti (argTypes.getD 0 0)).kind,AT5 C (argTypes.getD 1 0),vals C env args.toList with
  | .sl e,true,[[.one s],[.one x]]=>match jZ C hp e x with
   | some ys=>match s with
    | .JI=>when (decide (ys.length*(C.ti e).bytes<=140737488355328)) (fresh C hp d (K [.one (.own (site d 0))] [(site d 0,.sl e ys)]) fail) fail
    | .own id=>match look hp id .dead with
     | .sl e' xs=>match cast (e':=e) xs with
      | some xs=>when (decide ((xs.length+ys.length)*(C.ti e).bytes<=140737488355328)) (fresh C hp d (K [.one (.own (site d 0))] [(site d 0,.sl e (xs++ys)),(id,.dead)]) fail) fail
      | none=>fail
     | _=>fail
    | .sub id off len=>match look hp id .dead with
     | .sl e' xs=>match cast (e':=e) xs with
      | some xs=>match off with
       | 0=>when (decide (0<xs.length) && decide (len+ys.length<=xs.length)) (fresh C hp d (K [.one (.own (site d 0))] [(site d 0,.sl e (xs.take len++ys)),(id,.dead)]) fail) fail
       | off+1=>when (decide (off+1+len+ys.length<=xs.length)) (K [.one (.sub id (off+1) (len+ys.length))] [(id,.sl e (xs.take (off+1+len)++ys++xs.drop (off+1+len+ys.length)))]) fail
      | none=>fail
     | _=>fail
    | _=>fail
   | none=>fail
  | _,_,_=>fail
 | .makeFunc (.func f) first captured=>match Nat.beq first.size 0,Nat.beq captured.size 0 with
  | true,true=>K [.one (.fn f)] []
  | _,_=>fail
 | .call { callee:=.value (.func g),args,.. }=>jY C P AC call env hp d g args K fail
 | .call { callee:=.value (.tmp t),args,.. }=>match CB C env (.tmp t) with
  | [.one (.fn f)]=>AEU f (fun g=>jY C P AC call env hp d g args K fail) fail C.fns
  | _=>fail
 | _=>fail
def put (env:Env C) (d:Option Nat) (v:Val C.El):Env C:=match d with
 | some d=>(d,v)::env
 | none=>env
def AEi (nt:Nat):Option Nat->Bool
 | none=>true
 | some d=>Nat.blt d nt
def AUG (hp h:Hp C):L C.El->L C.El
 | .own id=>match look hp id .dead,look h id (.var []) with
  | .sl e xs,.dead=>.BG e xs
  | _,_=>.own id
 | l=>l
def ay (hp h:Hp C):U C.El->U C.El
 | .one l=>.one (AUG C hp h l)
 | u=>u
def thaw (hp h:Hp C) (env:Env C):Op->Env C
 | .buildSlice _ _ _=>env.map fun p=>(p.1,p.2.map (ay C hp h))
 | _=>env
def AzM (P:Program) (AC:Nat->Nat) (call:Nat->List (U C.El)->(List (U C.El)->R)->R) (nt:Nat) (ops:Array Oper):List Oper->Env C->Hp C->(Env C->Hp C->R)->R->R
 | [],env,hp,K,_=>K env hp
 | o::os,env,hp,K,fail=>match AEi nt o.dst with
  | false=>fail
  | true=>
   let exec:=fun (env:Env C)=>Ci C P AC call env hp (o.dst.getD 0) o.op (fun v h=>AzM P AC call nt ops os (put C (thaw C hp h env o.op) o.dst v) (h++hp) K fail) fail
   let skip:=fun (env:Env C)=>AzM P AC call nt ops os (put C env o.dst []) hp K fail
   match o.guard with
   | none=>exec env
   | some (j,want)=>match (ops[j]?).bind (·.dst) with
    | some t=>match look env t [.one .junk] with
     | [.one (.bool p)]=>cond p (cond want (exec ((t,[.one (.bool true)])::env)) (skip ((t,[.one (.bool true)])::env))) (cond want (skip ((t,[.one (.bool false)])::env)) (exec ((t,[.one (.bool false)])::env)))
     | []=>skip env
     | _=>fail
    | none=>fail
structure Done where
 i:Nat
 env:Env C
 hp:Hp C
def Sz (m:Nat) (done:List (Done C)) (env:Env C):Env C:=done.foldr (fun d r=>cond (m.testBit d.i) (d.env++r) r) env
def QT (m:Nat) (done:List (Done C)) (hp:Hp C):Hp C:=done.foldr (fun d r=>cond (m.testBit d.i) (d.hp++r) r) hp
def touches:Op->Bool
 | .move _ | .assign _ | .pick _ _ _ | .nilCheck _ | .binOp _ _ _ _ _ | .unOp _ _ _ | .fieldAddr _ _ _ | .field _ _ _ | .index _ _ _ | .extract _ _=>false
 | _=>true
def Cb (AzO:Array Nat) (i:Nat):Nat:=AzO.getD i 0
def Gz (ops:Array Oper) (i:Nat):Option Nat:=(ops[i]?).bind (·.dst)
def VO (ops:Array Oper) (i:Nat):Nat:=(Gz ops i).getD 0
def comparable (AzO:Array Nat) (i j:Nat):Bool:=(Cb AzO i).testBit j || (Cb AzO j).testBit i
def AT1:Option Nat->Option Nat->Bool
 | some d,some d'=> !(Nat.beq d d')
 | _,_=>true
def AT2 (d:Option Nat) (l:List Nat):Bool:=match d with
 | some d=> !(inB d l)
 | none=>true
def MB (AzO:Array Nat) (ops:Array Oper) (i:Nat) (o:Oper):Bool:=
 Nat.blt (Cb AzO i) (2 ^ i) && (o.after.toList.all fun e=> !Region.binds .any e || ((Cb AzO i).testBit e.on && Nat.beq (Nat.land (Cb AzO e.on) (Cb AzO i)) (Cb AzO e.on))) &&
 ((List.range ops.size).all fun k=> !((Cb AzO i).testBit k) || o.after.toList.any fun e=>Region.binds .any e && (Nat.beq e.on k || (Cb AzO e.on).testBit k))
def UE (AzO:Array Nat) (ops:Array Oper):Bool:=
 (List.range ops.size).all fun i=>match ops[i]? with
  | some o=>MB AzO ops i o && (match o.guard with | some (j,_)=>(Cb AzO i).testBit j | none=>true) &&
   ((List.range ops.size).all fun j=>Nat.beq i j || (AT1 (Gz ops i) (Gz ops j) && (comparable AzO i j || AT2 (Gz ops j) (o.looksAt ops))))
  | none=>false
def vis (AzO:Array Nat) (ops:Array Oper) (hp:Hp C) (j x:Nat):Bool:=
 Bj hp x || Nat.beq (VO ops j) (x / 64) || (List.range ops.size).any fun k=>(Cb AzO j).testBit k && Nat.beq (VO ops k) (x / 64)
def giver (ops:Array Oper) (t:Nat):Option Nat:=(List.range ops.size).find? fun k=>match Gz ops k with | some d=>Nat.beq d t | none=>false
def rootOf (env:Env C) (AzO:Array Nat) (ops:Array Oper):Nat->Nat->Operand->Option Nat
 | 0,_,_=>none
 | n+1,i,x=>match x with
  | .tmp t=>match giver ops t with
   | none=>match look env t [.one .junk] with
    | [.one (.ptr id _)]=>some id
    | _=>none
   | some k=>match (Cb AzO i).testBit k,ops[k]? with
    | true,some o=>match o.op with
     | .fieldAddr _ y _=>rootOf env AzO ops n k y
     | .move y=>rootOf env AzO ops n k y
     | .nilCheck y=>rootOf env AzO ops n k y
     | _=>none
    | _,_=>none
  | _=>none
def vO (env:Env C) (AzO:Array Nat) (ops:Array Oper):Nat->Nat->Operand->Option Nat
 | 0,_,_=>none
 | n+1,i,x=>match x with
  | .tmp t=>match giver ops t with
   | none=>match look env t [.one .junk] with
    | [.one (.own id)]=>some id
    | _=>none
   | some k=>match (Cb AzO i).testBit k,ops[k]? with
    | true,some o=>match o.op with
     | .move y=>vO env AzO ops n k y
     | _=>none
    | _,_=>none
  | _=>none
def aZ (env:Env C) (AzO:Array Nat) (ops:Array Oper) (i:Nat):Op->Option (Option Nat)
 | .load _ x=>match rootOf C env AzO ops 9 i x with
  | some id=>some (some id)
  | none=>none
 | .slice t _ _ _ none=>match (C.ti t).kind with
  | .str=>some none
  | _=>none
 | .convert s _ x=>match (C.ti s).kind,vO C env AzO ops 9 i x with
  | .sl _,some id=>some (some id)
  | _,_=>none
 | _=>none
def aimed (env:Env C) (AzO:Array Nat) (ops:Array Oper) (i x:Nat) (op:Op):Bool:=match aZ C env AzO ops i op with
 | some (some id)=> !(Nat.beq id x)
 | some none=>true
 | none=>false
def ji (env:Env C) (AzO:Array Nat) (ops:Array Oper) (i:Nat) (o:Oper) (hp view h:Hp C):Bool:=match h with
 | []=>true
 | h=>touches o.op && (aZ C env AzO ops i o.op).isNone && h.all fun x=>(Nat.beq (VO ops i) (x.1 / 64) || Bj view x.1) &&
   (List.range ops.size).all fun j=>Nat.beq i j || comparable AzO i j || !(match ops[j]? with | some oj=>touches oj.op | none=>true) || !(vis C AzO ops hp j x.1) || (match ops[j]? with | some oj=>aimed C env AzO ops j x.1 oj.op | none=>false)
def PZ (P:Program) (AC:Nat->Nat) (call:Nat->List (U C.El)->(List (U C.El)->R)->R) (nt:Nat) (AzO:Array Nat) (ops:Array Oper) (env:Env C) (hp:Hp C):Nat->List Oper->List (Done C)->(Env C->Hp C->R)->R->R
 | _,[],done,K,_=>K (Sz C (2 ^ ops.size - 1) done env) (QT C (2 ^ ops.size - 1) done hp)
 | i,o::os,done,K,fail=>match AEi nt o.dst with
  | false=>fail
  | true=>
   let exec:=fun (done:List (Done C))=>Ci C P AC call (Sz C (Cb AzO i) done env) (QT C (Cb AzO i) done hp) (o.dst.getD 0) o.op (fun v h=>
    match ji C env AzO ops i o hp (QT C (Cb AzO i) done hp) h with
    | true=>PZ P AC call nt AzO ops env hp (i+1) os (⟨i,put C [] o.dst v,h⟩::done) K fail
    | false=>fail) fail
   let skip:=fun (done:List (Done C))=>PZ P AC call nt AzO ops env hp (i+1) os (⟨i,put C [] o.dst [],[]⟩::done) K fail
   match o.guard with
   | none=>exec done
   | some (j,want)=>match Gz ops j with
    | some t=>match look (Sz C (Cb AzO i) done env) t [.one .junk] with
     | [.one (.bool p)]=>
      let told:=fun (b:Bool)=>done.map fun d=>cond (Nat.beq d.i j) ⟨d.i,(t,[.one (.bool b)])::d.env,d.hp⟩ d
      cond p (cond want (exec (told true)) (skip (told true))) (cond want (skip (told false)) (exec (told false)))
     | []=>skip done
     | _=>fail
    | none=>fail
def YZ:List (Nat×Nat)->Env C->Hp C->Env C×Hp C
 | [],env,hp=>(env,hp)
 | (t,e)::l,env,hp=>match look env t [.one .junk],Bj hp (site t 40) with
  | [.one .JI],false=>YZ l ((t,[.one (.own (site t 40))])::env) ((site t 40,.sl e [])::hp)
  | _,_=>YZ l env hp
def Ya:List (Nat×Nat×Nat)->Hp C->Hp C
 | [],hp=>hp
 | (id,o,e)::l,hp=>match look hp id .dead with
  | .var cs=>match wB C cs o,Bj hp (id+41+o) with
   | some .JI,false=>Ya l ((id,.var (cs.set o (.own (id+41+o))))::(id+41+o,.sl e [])::hp)
   | _,_=>Ya l hp
  | _=>Ya l hp
def scan (hp:Hp C) (vs:List Nat):Nat->List (L C.El)->List (Nat×Nat)->List (Nat×Nat)
 | _,[],ren=>ren
 | c,l::ls,ren=>
  let one:=fun (id:Nat)=>match look hp id .dead with
   | .sl _ _=>match inB id vs with
    | true=>ren
    | false=>cond (Bj ren id) ren (ren++[(id,c)])
   | _=>ren
  scan hp vs (c+1) ls (match l with
   | .own id=>one id
   | .sub id _ _=>one id
   | _=>ren)
def au (vs:List Nat) (ren:List (Nat×Nat)):L C.El->L C.El
 | .own id=>match inB id vs with
  | true=>.own id
  | false=>cond (Bj ren id) (.own (look ren id 0)) .any
 | .sub id off len=>match inB id vs with
  | true=>.sub id off len
  | false=>cond (Bj ren id) (.sub (look ren id 0) off len) .junk
 | .ptr id off=>cond (inB id vs) (.ptr id off) .junk
 | .Ji _ _ _=>.junk
 | l=>l
def AKK (vs:List Nat) (ren:List (Nat×Nat)):U C.El->U C.El
 | .one l=>.one (au C vs ren l)
 | .agg cs=>.agg (cs.map (au C vs ren))
 | u=>u
def Au8:Val C.El->List (L C.El)
 | [u]=>U.cells C u
 | _=>[]
def AUe (ks vs:List Nat) (env:Env C) (hp:Hp C):List (Nat×Nat):=
 vs.foldl (fun r v=>match look hp v .dead with | .var cs=>scan C hp vs (1000000+64*v) cs r | _=>r)
  (ks.foldl (fun r t=>scan C hp vs (64*t+48) (Au8 C (look env t [.one .junk])) r) [])
def wK (ks vs:List Nat) (ren:List (Nat×Nat)) (env:Env C):Env C:=
 ks.map fun t=>(t,(look env t [.one .junk]).map (AKK C vs ren))
def je:AxP C.El->AxP C.El
 | .var _=>.dead
 | o=>o
def KH (vs:List Nat) (ren:List (Nat×Nat)) (hp:Hp C):Hp C:=
 (vs.map fun v=>(v,match look hp v .dead with
  | .var cs=>.var (cs.map (au C vs ren))
  | o=>o))++ren.map fun r=>(r.2,je C (look hp r.1 .dead))
def Sr (env:Env C) (hp:Hp C):List ResultVar->Option (List (U C.El))
 | []=>some []
 | .tmp t::rs=>match look env t [.one .junk],Sr env hp rs with
  | [u],some us=>some (u::us)
  | _,_=>none
 | .cell a t::rs=>match look env a [.one .junk] with
  | [.one l]=>match Og C hp t l,Sr env hp rs with
   | some u,some us=>some (u::us)
   | _,_=>none
  | _=>none
def UC (env:Env C) (hp:Hp C):List ResultVar->Option (List (U C.El))
 | []=>some []
 | .tmp t::rs=>match look env t [.one .junk],UC env hp rs with
  | [u],some us=>some (u::us)
  | _,_=>none
 | .cell a t::rs=>match look env a [.one .junk] with
  | [.one l]=>match AwW C hp t l,UC env hp rs with
   | some u,some us=>some (u::us)
   | _,_=>none
  | _=>none
def UF (env:Env C) (hp:Hp C):List ResultVar->Bool
 | []=>true
 | .tmp _::rs=>UF env hp rs
 | .cell a t::rs=>(match look env a [.one .junk] with
  | [.one l]=>match AwW C hp t l with
   | some u=>TJ C t l u
   | none=>true
  | _=>true) && UF env hp rs
def Sv (hp:Hp C):List Nat->List (U C.El)->Option (List (U C.El)×List (Option (Nat×Nat)))
 | [],[]=>some ([],[])
 | t::ts,u::us=>match Sv hp ts us with
  | none=>none
  | some q=>match u with
   | .arr e xs=>some (.arr e xs::q.1,q.2)
   | .one (.ptr id 0)=>match VP C t,look hp id .dead with
    | some e,.var cs=>match Ja C hp false false (RQ C 9 e) cs with
     | some r=>some (.agg (.ptr 0 0::r.1)::q.1,some (id,0)::(r.2++q.2))
     | none=>none
    | _,_=>none
   | u=>match Ja C hp false false (RQ C 9 t) (U.cells C u) with
    | some r=>some (U.like C u r.1::q.1,r.2++q.2)
    | none=>none
 | _,_=>none
def aj:Nat->List Nat->List Nat
 | _,[]=>[]
 | i,t::ts=>match VP C t with
  | some _=>site i 0::aj (i+1) ts
  | none=>aj (i+1) ts
def jd (hp:Hp C):Nat->List Sh->Option (List (L C.El))
 | _,[]=>some []
 | id,.sl e::ss=>match look hp id .dead,jd hp (id+1) ss with
  | .io e' xs,some r=>match cast (e':=e) xs with
   | some xs=>some (.Ns e xs::r)
   | none=>none
  | _,_=>none
 | id,_::ss=>match jd hp id ss with
  | some r=>some (.junk::r)
  | none=>none
def U7 (hp:Hp C):Nat->List Mode'->List Nat->Option (List (U C.El)×List (Option (Nat×Nat)))
 | _,_,[]=>some ([],[])
 | i,ms,t::ts=>match U7 hp (i+1) (ms.drop 1) ts with
  | none=>none
  | some q=>match VP C t with
   | some e=>match look hp (site i 0) .dead with
    | .var cs=>match Ja C hp false false (RQ C 9 e) cs with
     | some r=>some (.agg r.1::q.1,r.2++q.2)
     | none=>none
    | _=>none
   | none=>match ms.headD .rd with
    | .io=>match jd C hp (site i 1) (RQ C 9 t) with
     | some r=>some (.agg r::q.1,q.2)
     | none=>none
    | _=>some q
def finish (f:Nat) (fn:Func) (env:Env C) (hp:Hp C) (ret:List (U C.El)->R) (fail:R):R:=
 match UC C env hp fn.results.toList with
 | some us=>when (UF C env hp fn.results.toList) (match Sv C hp fn.resultTypes.toList us,U7 C hp 0 (C.mode f) fn.params.toList with
  | some r,some q=>match nodupB (aj C 0 fn.params.toList++E5 (r.2++q.2)) with
   | true=>ret (r.1++q.1)
   | false=>fail
  | _,_=>fail) fail
 | none=>fail
def seg (P:Program) (AC:Nat->Nat) (call:Nat->List (U C.El)->(List (U C.El)->R)->R) (f:Nat) (fn:Func) (pk:List Nat) (stop:List Item->Env C->Hp C->R) (ret:List (U C.El)->R) (fail:R):Nat->Bool->List Item->Env C->Hp C->R
 | 0,_,_,_,_=>fail
 | n+1,fresh,todo,env,hp=>
  match todo with
  | []=>finish C f fn env hp ret fail
  | .code c::k=>match c with
   | .skip=>seg P AC call f fn pk stop ret fail n false k env hp
   | .seq a b=>seg P AC call f fn pk stop ret fail n fresh (.code a::.code b::k) env hp
   | .region id ops draw=>match cond fresh none (C.cuts f id) with
    | some (ks,vs,ps,qs)=>match YZ C ps env hp with
     | (env,hp)=>match Ya C qs hp with
     | hp=>let ren:=AUe C ks vs env hp
      match (nodupB (vs++ren.map fun r=>r.1) && nodupB (vs++ren.map fun r=>r.2)) && pk.all fun p=>inB p vs with
      | true=>stop todo (wK C ks vs ren env) (KH C vs ren hp)
      | false=>fail
    | none=>match draw with
     | false=>AzM C P AC call fn.ntmps ops ops.toList env hp (fun env hp=>seg P AC call f fn pk stop ret fail n false k env hp) fail
     | true=>let AzO:=Region.before ops
      match UE AzO ops with
      | true=>PZ C P AC call fn.ntmps AzO ops env hp 0 ops.toList [] (fun env hp=>seg P AC call f fn pk stop ret fail n false k env hp) fail
      | false=>fail
   | .cond c a b=>match CB C env c with
    | [.one (.bool p)]=>cond p (seg P AC call f fn pk stop ret fail n false (.code a::k) env hp) (seg P AC call f fn pk stop ret fail n false (.code b::k) env hp)
    | _=>fail
   | .block id c=>seg P AC call f fn pk stop ret fail n fresh (.code c::.inBlock id::k) env hp
   | .loop c=>seg P AC call f fn pk stop ret fail n fresh (.code c::.inLoop c::k) env hp
   | .exit id=>match exitTo id k with
    | some k=>seg P AC call f fn pk stop ret fail n false k env hp
    | none=>fail
   | .ret=>finish C f fn env hp ret fail
   | _=>fail
  | .inBlock _::k=>seg P AC call f fn pk stop ret fail n false k env hp
  | .inLoop c::k=>seg P AC call f fn pk stop ret fail n false (.code c::.inLoop c::k) env hp
  | _=>fail
end
def enter (C:Ctx):Nat->List Mode'->List Nat->List (U C.El)->Option (Env C×Hp C)
 | _,_,[],[]=>some ([],[])
 | i,ms,t::ts,u::us=>match enter C (i+1) (ms.drop 1) ts us with
  | some q=>match VP C t with
   | some _=>let r:=into C .sl (site i 1) (U.cells C u);some ((i,[.one (.ptr (site i 0) 0)])::q.1,(site i 0,.var r.1)::(r.2++q.2))
   | none=>match ms.headD .rd with
    | .rd=>some ((i,[u])::q.1,q.2)
    | .io=>let r:=into C .io (site i 1) (U.cells C u);some ((i,[U.like C u r.1])::q.1,r.2++q.2)
    | .mv=>let r:=into C .sl (site i 1) (U.cells C u);some ((i,[U.like C u r.1])::q.1,r.2++q.2)
  | none=>none
 | _,_,_,_=>none
def QO (P:Program) (g:Nat):Nat:=match P.funcs[g]? with
 | some fn=>fn.resultTypes.size
 | none=>0
def PU (C:Ctx):Hp C->List Nat
 | []=>[]
 | (i,o)::r=>match o with
  | .var _=>i::PU C r
  | .io _ _=>i::PU C r
  | _=>PU C r
mutual
def run (C:Ctx) (P:Program):Nat->Nat->Func->List Nat->Bool->List Item->Env C->Hp C->Option (List (U C.El))
 | 0,_,_,_,_,_,_,_=>none
 | k+1,f,fn,pk,fresh,todo,env,hp=>seg C P (QO P) (fun g args K=>(RG C P k g args).bind K) f fn pk (fun todo env hp=>run C P k f fn pk true todo env hp) some none 100000 fresh todo env hp
def RG (C:Ctx) (P:Program):Nat->Nat->List (U C.El)->Option (List (U C.El))
 | 0,_,_=>none
 | k+1,g,args=>match P.funcs[g]? with
  | some fn=>match fn.body with
   | some body=>match enter C 0 (C.mode g) fn.params.toList args with
    | some q=>match nodupB (q.2.map fun x=>x.1) && Nat.ble fn.params.size fn.ntmps with
     | true=>run C P k g fn (PU C q.2) false [.code body] q.1 q.2
     | false=>none
    | none=>none
   | none=>none
  | none=>none
end
end Go.Ev
