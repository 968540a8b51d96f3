/- What the evaluator tells of conversions and of appends is what the machine does. -/
import Derived.Test.YtkbbicgglblfiaaGreatDoorSnd12
namespace Go.Ev
open Go
section
variable {C:Ctx} {P:Program} {hp:Hp C} {AB:At} {w w':World} {Ai:Nat->Prop} {w0:World} {Avn:Nat->Nat->Prop} {n:Nat} {env:Env C} {a:Act}
variable {γ:Type} {K:Val C.El->Hp C->Option γ} {r:γ} {o:Oper} {AC:Nat->Nat} {call:Nat->List (U C.El)->(List (U C.El)->Option γ)->Option γ}
theorem Aun {e:Nat} (hC:Ph C e) {h:Int=C.El e} (hi:(C.Aw e).int?=some ⟨h⟩) (hk:(C.ti e).kind=.int .u8) (hone:(C.ti e).size=1) {R:Nat->Prop} {ys:List (C.El e)} {vs:List Value} (hr:Axl C w R ys vs) :
  vs=(h ▸ ys:List Int).map (fun n=>Value.int .u8 n):=by
 apply List.ext_getElem?;intro j;rw [List.getElem?_map,AdA];cases hy:ys[j]? with
 | none=>
  have:ys.length<=j:=List.getElem?_eq_none_iff.1 hy;rw [List.getElem?_eq_none (by rw [hr.1,hone];omega)];rfl
 | some y=>
  have hcd:=hC.int h .u8 hi hk (h ▸ y);have BV:(h ▸ (h ▸ y:Int):C.El e)=y:=by grind
  rw [BV] at hcd;obtain ⟨v,h1,h2⟩:=hr.2 j y 0 _ hy (by rw [hcd];rfl)
  rw [hone] at h1;cases h2;simp_all
theorem Auo (l:List Int):∀ s:AA,l.foldl (fun s n=>s.push (UInt8.ofNat n.toNat)) s=⟨s.data++(l.map fun n=>UInt8.ofNat n.toNat).toArray⟩:=by induction l<;>simp_all
theorem AvU (l:List Int):∀ (s:AA) (w:World),(forIn (l.map (fun n=>Value.int .u8 n)) s (fun c r=>(do
   let .int .u8 n:=c | stuck "bytesToString: byte expected"
   pure (ForInStep.yield (r.push (UInt8.ofNat n.toNat))):Sem (ForInStep AA)))).run P w=.ok (l.foldl (fun s n=>s.push (UInt8.ofNat n.toNat)) s) w:=by
 simp
theorem run_bytesToString {v:Value} {l:List Int} (h:Reads w v l.length (l.map fun n=>Value.int .u8 n)):(Conv.bytesToString v).run P w=.ok (.string (ofBytes l)) w:=by
 obtain ⟨A,cap,rfl,h1,h2⟩:=h
 have hof:ofBytes l=l.foldl (fun s n=>s.push (UInt8.ofNat n.toNat)) ByteArray.empty:=by simp [Auo,ofBytes]
 cases A with
 | none=>
  have:l=[]:=by simpa using h2 rfl
  subst this;rfl
 | some q=>
  have hl:=run_loadCells_list (P:=P) w q (l.map fun n=>Value.int .u8 n) (fun j u hu=>h1 q rfl j u hu);rw [List.length_map] at hl;simp only [Conv.bytesToString,Sem.run_bind,hl,Result.andThen_ok,List.forIn_toArray];rw [hof];simp
theorem NewAt.marked (w:World) (arr:Array Value) (e:TypeId):NewAt w ((w.drew.alloc (.cells arr e)).freeze ⟨w.heap.size,arr.size,none⟩ 1) arr e (arr.size,arr.size+1):=by
 have h:=NewAt.drew w arr e
 have hfr:((w.drew.alloc (.cells arr e)).freeze ⟨w.heap.size,arr.size,none⟩ 1)={ (w.drew.alloc (.cells arr e)) with heap:=(w.drew.alloc (.cells arr e)).heap.modify w.heap.size fun
   | .cells c elem (lo,hi)=>.cells c elem (if lo == hi then (arr.size,arr.size+1) else (min lo arr.size,max hi (arr.size+1)))
   | o=>o }:=rfl
 rw [hfr];refine ⟨rfl,rfl,rfl,by simp,fun b hb=>?_,?_⟩;·simp only [Array.getElem?_modify];rw [if_neg (by omega)];exact h.old b hb
 ·simp only [Array.getElem?_modify,if_pos];rw [h.get];rfl
theorem Aup {e:TypeId} (s:AA):∃ cap,s.size<=cap/\(s.size<=9223372036854775807->cap<=9223372036854775807)/\
  (Conv.stringToBytes e s).run P w=.ok (.slice (some ⟨w.heap.size,0,none⟩) s.size cap) ((w.drew.alloc (.cells (s.data.map (fun b=>Value.int .u8 b.toNat)++Array.replicate (cap - s.size) (.int .u8 0)) e)).freeze ⟨w.heap.size,cap,none⟩ 1):=by
 refine ⟨(Question.appendCap s.size 0 e).cut (w.tape w.drawn (.appendCap s.size 0 e)),AUO _ _ _ _,fun h=>Ac7 h,?_⟩;have hge:=AUO s.size 0 e (w.tape w.drawn (.appendCap s.size 0 e));have hch:(choose (.appendCap s.size 0 e)).run P w=.ok ((Question.appendCap s.size 0 e).cut (w.tape w.drawn (.appendCap s.size 0 e))) w.drew:=rfl;generalize (Question.appendCap s.size 0 e).cut (w.tape w.drawn (.appendCap s.size 0 e))=cap at hch hge;generalize hA:s.data.map (fun b=>Value.int .u8 b.toNat)++Array.replicate (cap - s.size) (.int .u8 0)=arr;have hsz:arr.size=cap:=by rw [<-hA];simp;omega
 have hnew:(newRow e arr).run P w.drew=.ok ⟨w.heap.size,0,none⟩ (w.drew.alloc (.cells arr e)):=rfl;have hshape:(w.drew.alloc (.cells arr e)).shape? w.heap.size=some (e,cap):=by have:=(NewAt.drew w arr e).get;simp_all [World.shape?]
 simp_all [Conv.stringToBytes,markStringish]
theorem AuP (hC:EW C P) (st:St C w0 Avn n env hp AB Ai a w) (src dst:TypeId) (x:Operand) (ho:o.op=.convert src dst x) (h:ET C P AC call env hp o K r):Sound C P w0 Avn hp AB a w o K r:=by
 unfold ET at h;rw [ho] at h;simp only [Ci] at h;have hx:=Awr st x;split at h;·rename_i k1 k k2 m h1 h2 he;rw [he] at hx;have hx:a.eval x=.int k2 m:=hx;have hu1:=Pj (P:=P) hC h1 (by simp);have hu2:=Pj (P:=P) hC h2 (by simp);exact Sound.val st.mem h (by simp [execOp,ho,hx,convert,run_underlying hu1,run_underlying hu2,Conv.intToInt]) rfl
 ·rename_i s h1 h2 he;rw [he] at hx;have hx:a.eval x=.string s:=hx;have hu1:=Pj (P:=P) hC h1 (by simp);have hu2:=Pj (P:=P) hC h2 (by simp);exact Sound.val st.mem h (by simp [execOp,ho,hx,convert,run_underlying hu1,run_underlying hu2]) rfl
 ·rename_i e s h1 h2 he;rw [he] at hx;have hx:a.eval x=.string s:=hx;have hu1:=Pj (P:=P) hC h1 (by simp);have hu2:=Pj (P:=P) hC h2 (by simp);split at h
  ·rename_i hh hi hk;obtain ⟨h3,h⟩:=AyE h
   have h3:=of_decide_eq_true h3;obtain ⟨hb,h⟩:=QB h
   have hue:=Pj (P:=P) hC hk (by simp);have hone:=(hC.ty e (by grind)).one;rw [hk] at hone;simp only at hone;obtain ⟨cap,g1,g2,g3⟩:=Aup (P:=P) (w:=w) (e:=e) s
   have hrow:=Ac9 (w:=w) (hC.Aw e) hi hk hone s Ai;have hsz:(s.data.map (fun (b:UInt8)=>Value.int .u8 b.toNat)++Array.replicate (cap - s.size) (Value.int .u8 0)).size=cap:=by simp;omega
   intro next Q hn
   have hnew:=NewAt.marked w (s.data.map (fun (b:UInt8)=>Value.int .u8 b.toNat)++Array.replicate (cap - s.size) (.int .u8 0)) e;rw [hsz] at hnew;have hlen:(hh ▸ bytesOf s:List (C.El e)).length=s.size:=by grind [AUP]
   have ha:=After.row (xs:=(hh ▸ bytesOf s:List (C.El e))) (cap:=cap) st.mem hb hnew (fun j hj=>by omega) (by grind) (by omega) (g2 h3) (fun j y i l hy hl=>by
    obtain ⟨v,g4,g5⟩:=hrow.2 j y i l hy hl
    grind)
   rw [hlen] at ha;refine Avs ?_ (hn _ _ _ _ h ha);simp [execOp,ho,hx,convert,run_underlying hu1,run_underlying hu2,run_underlying hue,g3]
  ·cases h
 ·rename_i e l h1 h2 he;rw [he] at hx;have hu1:=Pj (P:=P) hC h1 (by simp);have hu2:=Pj (P:=P) hC h2 (by simp);split at h
  ·rename_i hh xs hi hk hrow;have hue:=Pj (P:=P) hC hk (by simp);have hone:=(hC.ty e (by simp_all)).one;rw [hk] at hone;simp only at hone;obtain ⟨vs,g1,g2⟩:=Ac8 hC st.mem (by omega) hx hrow
   have g3:=Aun (hC.Aw e) hi hk hone g2;have g4:Reads w (a.eval x) (hh ▸ xs:List Int).length ((hh ▸ xs:List Int).map fun n=>Value.int .u8 n):=by grind
   have g5:=run_bytesToString (P:=P) g4;obtain ⟨A,cap,hv,_⟩:=g1
   rw [hv] at g5;exact Sound.val st.mem h (by simp [execOp,ho,hv,convert,run_underlying hu1,run_underlying hu2,run_underlying hue,g5]) rfl
  ·cases h
 ·cases h
end
end Go.Ev
