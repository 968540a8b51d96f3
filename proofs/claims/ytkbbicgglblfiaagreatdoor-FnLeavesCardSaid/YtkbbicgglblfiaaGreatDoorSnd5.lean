/- What the evaluator tells of operations that turn no memory is what the machine does: indices, lengths, conversions of numbers. -/
import Derived.Test.YtkbbicgglblfiaaGreatDoorSnd4
namespace Go.Ev
open Go
section
variable {C:Ctx} {P:Program} {hp:Hp C} {AB:At} {w:World} {Ai:Nat->Prop} {w0:World} {Avn:Nat->Nat->Prop} {n:Nat} {env:Env C} {a:Act}
variable {γ:Type} {K:Val C.El->Hp C->Option γ} {r:γ} {o:Oper} {AC:Nat->Nat} {call:Nat->List (U C.El)->(List (U C.El)->Option γ)->Option γ}
theorem AzX (hC:EW C P) {t e:Nat} (hk:(C.ti t).kind=.sl e):P.underlying t=some (.slice e)/\0<(C.ti e).size/\(∀ w,(sizeOf e).run P w=.ok (C.ti e).size w):=by
 have hu:=(hC.ty t (by simp_all)).und;rw [hk] at hu;obtain ⟨h1,h2,_⟩:=hC.pos e ⟨t,.inl hk⟩
 exact ⟨hu,h1,AKP hC h2⟩
theorem AKM (hC:EW C P) {t m e:Nat} (hk:(C.ti t).kind=.arr m e):P.underlying t=some (.array m e)/\0<(C.ti e).size/\(∀ w,(sizeOf e).run P w=.ok (C.ti e).size w)/\(C.ti e).kind≠.other:=by
 have hu:=(hC.ty t (by simp_all)).und;rw [hk] at hu;obtain ⟨h1,h2,_⟩:=hC.pos e ⟨t,.inr ⟨m,hk⟩⟩
 exact ⟨hu,h1,AKP hC h2,h2⟩
theorem QZ {t e sz:Nat} (hu:P.underlying t=some (.slice e)) (hs:(sizeOf e).run P w=.ok sz w) {b off len cap:Nat} {k:IntKind} {i:Int} (h0:0<=i) (h1:i<(len:Int)) :
  (Instr.indexAt t (.slice (some ⟨b,off,none⟩) len cap) (.int k i)).run P w=.ok (.pointer (some ⟨b,off+i.toNat*sz,none⟩)) w:=by
 simp [Instr.indexAt,asIntOf,run_underlying hu,h0,h1,hs,Addr.add_mid]
theorem AdC {t e sz m:Nat} (hu:P.underlying t=some (.array m e)) (hs:(sizeOf e).run P w=.ok sz w) {b off:Nat} {k:IntKind} {i:Int} (h0:0<=i) (h1:i<(m:Int)) :
  (Instr.indexAt t (.pointer (some ⟨b,off,none⟩)) (.int k i)).run P w=.ok (.pointer (some ⟨b,off+i.toNat*sz,none⟩)) w:=by
 simp [Instr.indexAt,Instr.sureAddr,asIntOf,run_underlying hu,h0,h1,hs,Addr.add_mid]
theorem YT {i:Int} {l:Nat} {x:Option γ} (h:when (decide (0<=i) && decide (i<(l:Int))) x none=some r):0<=i/\i<(l:Int)/\x=some r:=by grind [AyE]
theorem YO (m:Mem C w0 Avn hp AB Ai w) {id e:Nat} {xs:List (C.El e)} (hl:look hp id .dead=.sl e xs) {ro:Nat->Prop} {v:Value} (h:KA C hp AB w ro (.own id) v) :
  (xs=[]/\v=.slice none 0 0/\AB id=none)\/∃ b cap arr fr,AB id=some (b,0)/\v=.slice (some ⟨b,0,none⟩) xs.length cap/\w.heap[b]?=some (.cells arr e fr)/\arr.size=cap*(C.ti e).size/\xs.length<=cap:=by
 obtain ⟨_,_,h⟩:=h
 simp only [hl] at h;have ho:=m.obj id;grind [OA]
theorem AKI (m:Mem C w0 Avn hp AB Ai w) {id o' len e:Nat} {xs:List (C.El e)} (hl:look hp id .dead=.sl e xs) (hs:0<(C.ti e).size) {ro:Nat->Prop} {v:Value} (h:KA C hp AB w ro (.sub id o' len) v) :
  (len=0/\o'=0/\v=.slice none 0 0)\/∃ b cap arr fr A,AB id=some (b,0)/\v=.slice A len (cap - o')/\o'+len<=xs.length/\xs.length<=cap/\w.heap[b]?=some (.cells arr e fr)/\arr.size=cap*(C.ti e).size/\
   (o'<cap->A=some ⟨b,o'*(C.ti e).size,none⟩)/\(o'=cap->∃ a,A=some a):=by
 obtain ⟨_,_,h⟩:=h
 simp only [hl] at h;have ho:=m.obj id;simp only [OA,hl] at ho;cases ha:AB id<;>grind [Nat.eq_of_mul_eq_mul_right]
theorem AuS (hC:EW C P) (st:St C w0 Avn n env hp AB Ai a w) (t:TypeId) (x i:Operand) (ho:o.op=.indexAddr t x i) (h:ET C P AC call env hp o K r):Sound C P w0 Avn hp AB a w o K r:=by
 unfold ET at h;rw [ho] at h;simp only [Ci] at h;have hx:=Awr st x;have hi:=Awr st i;have run:∀ {v:Value},(Instr.indexAt t (a.eval x) (a.eval i)).run P w=.ok v w->(execOp a.eval o).run P w=.ok (.value v) w:=by simp_all [execOp]
 split at h
 ·rename_i e id k i' hk he hie;rw [he] at hx;rw [hie] at hi;have hi:a.eval i=.int k i':=hi;obtain ⟨hu,hs,hsz⟩:=AzX hC hk
  split at h
  ·rename_i e' xs hl;split at h
   ·rename_i hee;have hee:=Ea hee;subst hee;obtain ⟨h0,h1,h2⟩:=YT h
    rcases YO (ro:=BK C hp AB w) st.mem hl hx with ⟨hxs,_⟩ | ⟨b,cap,arr,fr,ha,hv,_⟩
    ·grind
    ·refine Sound.val st.mem h2 (run (by rw [hv,hi];exact QZ hu (hsz w) h0 h1)) ⟨⟨_,_,rfl⟩,(hx:KA C hp AB w _ (.own id) _).2.1,by grind⟩
   ·cases h
  ·rename_i e' xs hl;split at h
   ·rename_i hee;have hee:=Ea hee;subst hee;obtain ⟨h0,h1,h2⟩:=YT h
    obtain ⟨_,hb,hy⟩:=(hx:KA C hp AB w (BK C hp AB w) (.own id) (a.eval x))
    simp only [hl] at hy;cases ha:AB id with
    | none=>grind
    | some p=>
     obtain ⟨b,off⟩:=p
     simp only [ha] at hy;obtain ⟨cap,hv,_⟩:=hy
     refine Sound.val st.mem h2 (run (by rw [hv,hi];exact QZ hu (hsz w) h0 h1)) ⟨⟨_,_,rfl⟩,hb,by grind⟩
   ·cases h
  ·cases h
 ·rename_i e id off len k i' hk he hie;rw [he] at hx;rw [hie] at hi;have hi:a.eval i=.int k i':=hi;obtain ⟨hu,hs,hsz⟩:=AzX hC hk
  split at h
  ·rename_i e' xs hl;split at h
   ·rename_i hee;have hee:=Ea hee;subst hee;obtain ⟨h0,h1,h2⟩:=YT h
    rcases AKI (ro:=BK C hp AB w) st.mem hl hs hx with ⟨hxs,_⟩ | ⟨b,cap,arr,fr,A,ha,hv,h3,h4,_,_,h5,_⟩
    ·omega
    ·have hA:=h5 (by omega);subst hA;refine Sound.val st.mem h2 (run (by rw [hv,hi];exact QZ hu (hsz w) h0 h1)) ⟨⟨_,_,rfl⟩,(hx:KA C hp AB w _ (.sub id off len) _).2.1,by grind⟩
   ·cases h
  ·cases h
 ·rename_i e e' xs k i' hk he hie;rw [he] at hx;rw [hie] at hi;have hi:a.eval i=.int k i':=hi;obtain ⟨hu,hs,hsz⟩:=AzX hC hk
  split at h
  ·rename_i hee;have hee:=Ea hee;subst hee;obtain ⟨h0,h1,h2⟩:=YT h
   have hr:Rep C w (BK C hp AB w) (.BG e xs) (a.eval x):=hx;generalize hv:a.eval x=v at hr run;cases hr with
   | none=>grind
   | BG _ _ b off c V hb hl hc hrr=>
    have hg:xs[i'.toNat]?=some (xs.getD i'.toNat (C.Aw e).z):=by grind
    refine Sound.val st.mem h2 (run (by rw [hi];exact QZ hu (hsz w) h0 h1)) ⟨b,off+i'.toNat*(C.ti e).size,fun j=>V i'.toNat j,by simp,hb,fun j l hl=>⟨by grind,hrr _ _ j l hg hl⟩⟩
  ·cases h
 ·rename_i e k i' hk he hie;rw [he] at hx;rw [hie] at hi;have hi:a.eval i=.int k i':=hi;obtain ⟨hu,hs,hsz⟩:=AzX hC hk
  split at h
  ·rename_i hke;obtain ⟨h0,h1,h2⟩:=YT h
   have hv:a.eval x=.slice C.pm.ca C.pm.cl.length C.pm.cc:=hx;have hne:C.pm.cl≠[]:=fun e=>by grind
   rw [C.pm.ok hne] at hv;have h1':=(hC.ty e (by grind)).one;rw [hke] at h1';simp only at h1';refine Sound.val st.mem h2 (run (by rw [hv,hi];exact QZ hu (hsz w) h0 h1)) ?_;show _=_;simp [h1']
  ·cases h
 ·rename_i m e id k i' hk he hie;rw [he] at hx;rw [hie] at hi;have hi:a.eval i=.int k i':=hi;obtain ⟨hu,hs,hsz,_⟩:=AKM hC hk
  split at h
  ·rename_i e' xs hl;split at h
   ·rename_i hee;have hee:=Ea hee;subst hee;obtain ⟨hmm,h'⟩:=AyE h
    clear h;have hmm:=Ea hmm;subst hmm;obtain ⟨h0,h1,h2⟩:=YT h'
    obtain ⟨hb,b,off,ha,hv⟩:=(hx:KA C hp AB w (BK C hp AB w) (.ptr id 0) (a.eval x))
    refine Sound.val st.mem h2 (run (by rw [hv,hi];exact AdC hu (hsz w) h0 h1)) ⟨⟨_,_,rfl⟩,hb,by grind⟩
   ·cases h
  ·cases h
 ·rename_i m e g k i' hk he hie;rw [he] at hx;rw [hie] at hi;have hi:a.eval i=.int k i':=hi;obtain ⟨hu,hs,hsz,hne⟩:=AKM hC hk
  split at h
  ·rename_i hke hmm;have hmm:=Ea hmm;subst hmm;obtain ⟨h0,h1,h2⟩:=YT h
   have hv:a.eval x=.pointer (some ⟨g,0,none⟩):=hx;have h1':=(hC.ty e hne).one;rw [hke] at h1';simp only at h1';refine Sound.val st.mem h2 (run (by rw [hv,hi];exact AdC hu (hsz w) h0 h1)) ?_;show _=_;simp [h1']
  ·cases h
 ·cases h
theorem AKN (hC:EW C P) (st:St C w0 Avn n env hp AB Ai a w) (t:TypeId) (x i:Operand) (ho:o.op=.index t x i) (h:ET C P AC call env hp o K r):Sound C P w0 Avn hp AB a w o K r:=by
 unfold ET at h;rw [ho] at h;simp only [Ci] at h;have hx:=Awr st x;have hi:=Awr st i;have run:∀ {v:Value},(Instr.index t (a.eval x) (a.eval i)).run P w=.ok v w->(execOp a.eval o).run P w=.ok (.value v) w:=by simp_all [execOp]
 split at h
 ·rename_i s k i' hk he hie;rw [he] at hx;rw [hie] at hi;have hi:a.eval i=.int k i':=hi;have hx:a.eval x=.string s:=hx;obtain ⟨h0,h1,h2⟩:=YT h
  have hu:=(hC.ty t (by simp_all)).und;rw [hk] at hu;have hb:i'.toNat<s.size:=by omega
  refine Sound.val st.mem h2 (run (by rw [hx,hi];simp [Instr.index,asIntOf,run_underlying hu,h0,hb];rfl)) ?_;show Value.int .u8 _=Value.int .u8 _;simp [bt,hb]
 ·rename_i m e e' xs k i' hk he hie;rw [he] at hx;rw [hie] at hi;have hi:a.eval i=.int k i':=hi;obtain ⟨arr,ha,hn,hc⟩:=(hx:AzR C hp AB w (BK C hp AB w) (.arr e' xs) (a.eval x))
  obtain ⟨hu,hs,hsz,hne⟩:=AKM hC hk
  split at h
  ·rename_i l hee hag hl;have hee:=Ea hee;subst hee;obtain ⟨hmm,h'⟩:=AyE h
   clear h;have hmm:=Ea hmm;subst hmm;obtain ⟨h0,h1,h2⟩:=YT h'
   have hg:xs[i'.toNat]?=some (xs.getD i'.toNat (C.Aw e).z):=by grind
   obtain ⟨u,h3,h4⟩:=hc _ _ 0 l hg (by grind)
   refine Sound.val st.mem h2 (run (by rw [ha,hi];simp [Instr.index,asIntOf,run_underlying hu,h0,h1,hsz,part,vk hC hne,hag];simp at h3;rw [h3];rfl)) (Rep.jv (h4.mono (fun _ h=>h.elim)))
  ·cases h
 ·cases h
theorem AtU (st:St C w0 Avn n env hp AB Ai a w):∀ (xs:List Operand) (i:Nat) (x:Val C.El),(vals C env xs)[i]?=some x->∃ y,xs[i]?=some y/\IB C hp AB w (BK C hp AB w) x (a.eval y):=by
 intro xs;induction xs with
 | nil=>simp [vals]
 | cons y ys ih=>
  intro i x h;cases i with
  | zero=>simp [vals] at h;subst h;exact ⟨y,rfl,Awr st y⟩
  | succ i=>simp_all [vals]
theorem AtV (xs:List Operand):(vals C env xs).length=xs.length:=by induction xs<;>simp_all [vals]
end
end Go.Ev
