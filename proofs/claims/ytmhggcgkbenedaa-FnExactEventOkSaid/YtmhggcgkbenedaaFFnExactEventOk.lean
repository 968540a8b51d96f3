/- Functions of the program, told by plain functions: part 1 of 1. -/
import Derived.Test.YtmhggcgkbenedaaCtx
namespace Go.Proofs.Ytmhggcgkbenedaa.G
open Go Go.Ev
noncomputable def E_laws_szCall  (a_0 : SCall) (left_1 : Int) : Option Int :=
  bif (decide ((w64 (left_1 - (a_0.fText.size : Int))) < 0)) then
    some (-(1 : Int))
  else
    some (w64 (left_1 - (a_0.fText.size : Int)))
noncomputable def laws_szCall (a_0 : SCall) (left_1 : Int) : Option Int := E_laws_szCall  a_0 left_1
theorem e_laws_szCall  : EntryIs0 ctx PP 58 [] [] cv22 cv1 (fun a => E_laws_szCall  a.1 a.2) := fun a => by kernel_rfl
theorem ok_laws_szCall : Tells ctx PP 58 cv22 cv1 (fun a => laws_szCall a.1 a.2) := fn_ok0 hl_nil Try.func58 (e_laws_szCall )
noncomputable def H_laws_szCall {γ : Type} (F : SCall → Int → Option Int) : Hd ctx γ := hdl cv22.dec (fun a => F a.1 a.2) cv1.enc
theorem h_laws_szCall {γ : Type} : HdOk (γ := γ) PP 58 (H_laws_szCall laws_szCall) := hd_ok ok_laws_szCall
noncomputable def E_laws_szIntS  (a_0 : (List Int)) (left_1 : Int) : Option Int :=
  bif (decide ((w64 (left_1 - (a_0.length : Int))) < 0)) then
    some (-(1 : Int))
  else
    some (w64 (left_1 - (a_0.length : Int)))
noncomputable def laws_szIntS (a_0 : (List Int)) (left_1 : Int) : Option Int := E_laws_szIntS  a_0 left_1
theorem e_laws_szIntS  : EntryIs0 ctx PP 59 [] [] cv21 cv1 (fun a => E_laws_szIntS  a.1 a.2) := fun a => by kernel_rfl
theorem ok_laws_szIntS : Tells ctx PP 59 cv21 cv1 (fun a => laws_szIntS a.1 a.2) := fn_ok0 hl_nil Try.func59 (e_laws_szIntS )
noncomputable def H_laws_szIntS {γ : Type} (F : (List Int) → Int → Option Int) : Hd ctx γ := hdl cv21.dec (fun a => F a.1 a.2) cv1.enc
theorem h_laws_szIntS {γ : Type} : HdOk (γ := γ) PP 59 (H_laws_szIntS laws_szIntS) := hd_ok ok_laws_szIntS
noncomputable def E_laws_szEvent (laws_szCall : SCall → Int → Option Int) (laws_szIntS : (List Int) → Int → Option Int) (a_0 : SEvent) (left_1 : Int) : Option Int :=
  (laws_szCall a_0.fCall left_1).bind fun r0 =>
  bif (decide (r0 < 0)) then
    some (-(1 : Int))
  else
    (laws_szIntS a_0.fLeft r0).bind fun r1 =>
    bif (decide (r1 < 0)) then
      some (-(1 : Int))
    else
      some r1
noncomputable def laws_szEvent (a_0 : SEvent) (left_1 : Int) : Option Int := E_laws_szEvent laws_szCall laws_szIntS a_0 left_1
theorem e_laws_szEvent (laws_szCall : SCall → Int → Option Int) (laws_szIntS : (List Int) → Int → Option Int) : EntryIs0 ctx PP 24 [] [(58, H_laws_szCall laws_szCall), (59, H_laws_szIntS laws_szIntS)] cv23 cv1 (fun a => E_laws_szEvent laws_szCall laws_szIntS a.1 a.2) := fun a => by kernel_rfl
theorem ok_laws_szEvent : Tells ctx PP 24 cv23 cv1 (fun a => laws_szEvent a.1 a.2) := fn_ok0 (hl_cons h_laws_szCall (hl_cons h_laws_szIntS hl_nil)) Try.func24 (e_laws_szEvent laws_szCall laws_szIntS)
noncomputable def H_laws_szEvent {γ : Type} (F : SEvent → Int → Option Int) : Hd ctx γ := hdl cv23.dec (fun a => F a.1 a.2) cv1.enc
theorem h_laws_szEvent {γ : Type} : HdOk (γ := γ) PP 24 (H_laws_szEvent laws_szEvent) := hd_ok ok_laws_szEvent
noncomputable def E_laws_toCall  (a_0 : SCall) : Option SCall :=
  some a_0
noncomputable def laws_toCall (a_0 : SCall) : Option SCall := E_laws_toCall  a_0
theorem e_laws_toCall  : EntryIs0 ctx PP 62 [] [] cv24 cv24 (fun a => E_laws_toCall  a) := fun a => by kernel_rfl
theorem ok_laws_toCall : Tells ctx PP 62 cv24 cv24 (fun a => laws_toCall a) := fn_ok0 hl_nil Try.func62 (e_laws_toCall )
noncomputable def H_laws_toCall {γ : Type} (F : SCall → Option SCall) : Hd ctx γ := hdl cv24.dec (fun a => F a) cv24.enc
theorem h_laws_toCall {γ : Type} : HdOk (γ := γ) PP 62 (H_laws_toCall laws_toCall) := hd_ok ok_laws_toCall
noncomputable def todo_laws_toIntS_0 : List Go.Item := [.code (cAt (bodyOf Try.f63) [1, 1, 0, 1, 0, 0, 0, 0]), .code (cAt (bodyOf Try.f63) [1, 1, 0, 1, 0, 0, 0, 1]), .code (cAt (bodyOf Try.f63) [1, 1, 0, 1, 0, 0, 1]), .inLoop (cAt (bodyOf Try.f63) [1, 1, 0, 1, 0, 0]), .inBlock 0, .code (cAt (bodyOf Try.f63) [1, 1, 1])]
inductive St_laws_toIntS where
  | c0 (a_0 : (List Int)) (i_4 : Int) (out_3 : (List Int))
noncomputable def at_laws_toIntS : St_laws_toIntS → LI
  | .c0 a_0 i_4 out_3 => (todo_laws_toIntS_0, [(0, [.one (.rsl 3 a_0)]), (3, [.one (.own 240)]), (4, [.one (.int .i64 i_4)])], [(240, .sl 3 out_3)])
noncomputable def E_laws_toIntS  (k : St_laws_toIntS → Option (List Int)) (a_0 : (List Int)) : Option (List Int) :=
  bif ((((decide (0 ≤ (a_0.length : Int))) && (decide ((a_0.length : Int) ≤ (a_0.length : Int)))) && (decide ((a_0.length : Int) ≤ 9223372036854775807))) && (decide (((a_0.length : Int).toNat * 8) ≤ 140737488355328))) then
  k (.c0 a_0 (0 : Int) (List.replicate (a_0.length : Int).toNat (0 : Int)))
  else none
noncomputable def B_laws_toIntS  (k : St_laws_toIntS → Option (List Int)) : St_laws_toIntS → Option (List Int)
  | .c0 a_0 i_4 out_3 =>
    bif (decide (i_4 < (a_0.length : Int))) then
      bif ((decide (0 ≤ i_4)) && (decide (i_4 < (a_0.length : Int)))) then
      bif ((decide (0 ≤ i_4)) && (decide (i_4 < (out_3.length : Int)))) then
      k (.c0 a_0 (w64 (i_4 + 1)) (out_3.set i_4.toNat (a_0.getD i_4.toNat 0)))
      else none
      else none
    else
      some out_3
noncomputable def L_laws_toIntS : Nat → St_laws_toIntS → Option (List Int)
  | 0, _ => none
  | m + 1, s => B_laws_toIntS  (L_laws_toIntS m) s
noncomputable def laws_toIntS (a_0 : (List Int)) : Option (List Int) := E_laws_toIntS  (L_laws_toIntS gas) a_0
theorem e_laws_toIntS  : EntryIs ctx PP 63 [] [] cv25 cv13 at_laws_toIntS (fun k a => E_laws_toIntS  k a) := fun stop a => by kernel_rfl
theorem b_laws_toIntS  : CutIs ctx PP 63 Try.f63 [] [] cv13 at_laws_toIntS (B_laws_toIntS ) := fun stop s => by cases s <;> kernel_rfl
theorem i_laws_toIntS : ∀ s s', at_laws_toIntS s = at_laws_toIntS s' → s = s' := by
  intro s s' h
  cases s with
  | c0 v0 v1 v2 => cases s' with
    | c0 w0 w1 w2 => cases h; rfl
theorem ok_laws_toIntS : Tells ctx PP 63 cv25 cv13 (fun a => laws_toIntS a) := fn_ok hl_nil Try.func63 i_laws_toIntS (fun _ => rfl) (fun _ _ => rfl) (b_laws_toIntS ) (e_laws_toIntS ) gas
noncomputable def H_laws_toIntS {γ : Type} (F : (List Int) → Option (List Int)) : Hd ctx γ := hdl cv25.dec (fun a => F a) cv13.enc
theorem h_laws_toIntS {γ : Type} : HdOk (γ := γ) PP 63 (H_laws_toIntS laws_toIntS) := hd_ok ok_laws_toIntS
noncomputable def E_laws_toEvent (laws_toCall : SCall → Option SCall) (laws_toIntS : (List Int) → Option (List Int)) (a_0 : SEvent) : Option SEvent :=
  (laws_toCall a_0.fCall).bind fun r0 =>
  (laws_toIntS a_0.fLeft).bind fun r1 =>
  some (⟨r0, a_0.fCut, r1, a_0.fRise⟩ : SEvent)
noncomputable def laws_toEvent (a_0 : SEvent) : Option SEvent := E_laws_toEvent laws_toCall laws_toIntS a_0
theorem e_laws_toEvent (laws_toCall : SCall → Option SCall) (laws_toIntS : (List Int) → Option (List Int)) : EntryIs0 ctx PP 26 [] [(62, H_laws_toCall laws_toCall), (63, H_laws_toIntS laws_toIntS)] cv26 cv27 (fun a => E_laws_toEvent laws_toCall laws_toIntS a) := fun a => by kernel_rfl
theorem ok_laws_toEvent : Tells ctx PP 26 cv26 cv27 (fun a => laws_toEvent a) := fn_ok0 (hl_cons h_laws_toCall (hl_cons h_laws_toIntS hl_nil)) Try.func26 (e_laws_toEvent laws_toCall laws_toIntS)
noncomputable def H_laws_toEvent {γ : Type} (F : SEvent → Option SEvent) : Hd ctx γ := hdl cv26.dec (fun a => F a) cv27.enc
theorem h_laws_toEvent {γ : Type} : HdOk (γ := γ) PP 26 (H_laws_toEvent laws_toEvent) := hd_ok ok_laws_toEvent
noncomputable def E_spec_l01In  (x_0 : Int) (least_1 : Int) (most_2 : Int) : Option Bool :=
  bif (decide (x_0 ≥ least_1)) then
    some (decide (x_0 ≤ most_2))
  else
    some false
noncomputable def spec_l01In (x_0 : Int) (least_1 : Int) (most_2 : Int) : Option Bool := E_spec_l01In  x_0 least_1 most_2
theorem e_spec_l01In  : EntryIs0 ctx PP 70 [] [] cv3 cv4 (fun a => E_spec_l01In  a.1 a.2.1 a.2.2) := fun a => by kernel_rfl
theorem ok_spec_l01In : Tells ctx PP 70 cv3 cv4 (fun a => spec_l01In a.1 a.2.1 a.2.2) := fn_ok0 hl_nil Try.func70 (e_spec_l01In )
noncomputable def H_spec_l01In {γ : Type} (F : Int → Int → Int → Option Bool) : Hd ctx γ := hdl cv3.dec (fun a => F a.1 a.2.1 a.2.2) cv4.enc
theorem h_spec_l01In {γ : Type} : HdOk (γ := γ) PP 70 (H_spec_l01In spec_l01In) := hd_ok ok_spec_l01In
noncomputable def E_spec_CallOk (spec_l01In : Int → Int → Int → Option Bool) (c_0 : SCall) : Option Bool :=
  (spec_l01In c_0.fOp (1 : Int) (13 : Int)).bind fun r0 =>
  bif r0 then
    (spec_l01In c_0.fSession (0 : Int) (1000 : Int)).bind fun r1 =>
    bif r1 then
      (spec_l01In c_0.fThing (0 : Int) (1000 : Int)).bind fun r2 =>
      bif r2 then
        (spec_l01In c_0.fKind (0 : Int) (3 : Int)).bind fun r3 =>
        bif r3 then
          some (decide ((c_0.fText.size : Int) ≤ 1000))
        else
          some false
      else
        some false
    else
      some false
  else
    some false
noncomputable def spec_CallOk (c_0 : SCall) : Option Bool := E_spec_CallOk spec_l01In c_0
theorem e_spec_CallOk (spec_l01In : Int → Int → Int → Option Bool) : EntryIs0 ctx PP 60 [] [(70, H_spec_l01In spec_l01In)] cv24 cv4 (fun a => E_spec_CallOk spec_l01In a) := fun a => by kernel_rfl
theorem ok_spec_CallOk : Tells ctx PP 60 cv24 cv4 (fun a => spec_CallOk a) := fn_ok0 (hl_cons h_spec_l01In hl_nil) Try.func60 (e_spec_CallOk spec_l01In)
noncomputable def H_spec_CallOk {γ : Type} (F : SCall → Option Bool) : Hd ctx γ := hdl cv24.dec (fun a => F a) cv4.enc
theorem h_spec_CallOk {γ : Type} : HdOk (γ := γ) PP 60 (H_spec_CallOk spec_CallOk) := hd_ok ok_spec_CallOk
noncomputable def E_spec_l24NoCall  (c_0 : SCall) : Option Bool :=
  some ((c_0.fOp == 0) && ((c_0.fSession == 0) && ((c_0.fThing == 0) && ((c_0.fKind == 0) && (((ByteArray.toList c_0.fText) == (ByteArray.toList (⟨#[]⟩ : ByteArray))) && ((c_0.fHidden == false) && ((c_0.fFixed == false) && true)))))))
noncomputable def spec_l24NoCall (c_0 : SCall) : Option Bool := E_spec_l24NoCall  c_0
theorem e_spec_l24NoCall  : EntryIs0 ctx PP 61 [] [] cv24 cv4 (fun a => E_spec_l24NoCall  a) := fun a => by kernel_rfl
theorem ok_spec_l24NoCall : Tells ctx PP 61 cv24 cv4 (fun a => spec_l24NoCall a) := fn_ok0 hl_nil Try.func61 (e_spec_l24NoCall )
noncomputable def H_spec_l24NoCall {γ : Type} (F : SCall → Option Bool) : Hd ctx γ := hdl cv24.dec (fun a => F a) cv4.enc
theorem h_spec_l24NoCall {γ : Type} : HdOk (γ := γ) PP 61 (H_spec_l24NoCall spec_l24NoCall) := hd_ok ok_spec_l24NoCall
noncomputable def E_spec_EventOk (spec_CallOk : SCall → Option Bool) (spec_l24NoCall : SCall → Option Bool) (e_0 : SEvent) : Option Bool :=
  bif (decide ((e_0.fLeft.length : Int) ≤ 30)) then
    (spec_CallOk e_0.fCall).bind fun r0 =>
    bif r0 then
      some true
    else
      bif e_0.fRise then
        (spec_l24NoCall e_0.fCall).bind fun r1 =>
        some r1
      else
        some false
  else
    some false
noncomputable def spec_EventOk (e_0 : SEvent) : Option Bool := E_spec_EventOk spec_CallOk spec_l24NoCall e_0
theorem e_spec_EventOk (spec_CallOk : SCall → Option Bool) (spec_l24NoCall : SCall → Option Bool) : EntryIs0 ctx PP 25 [] [(60, H_spec_CallOk spec_CallOk), (61, H_spec_l24NoCall spec_l24NoCall)] cv28 cv4 (fun a => E_spec_EventOk spec_CallOk spec_l24NoCall a) := fun a => by kernel_rfl
theorem ok_spec_EventOk : Tells ctx PP 25 cv28 cv4 (fun a => spec_EventOk a) := fn_ok0 (hl_cons h_spec_CallOk (hl_cons h_spec_l24NoCall hl_nil)) Try.func25 (e_spec_EventOk spec_CallOk spec_l24NoCall)
noncomputable def H_spec_EventOk {γ : Type} (F : SEvent → Option Bool) : Hd ctx γ := hdl cv28.dec (fun a => F a) cv4.enc
theorem h_spec_EventOk {γ : Type} : HdOk (γ := γ) PP 25 (H_spec_EventOk spec_EventOk) := hd_ok ok_spec_EventOk
noncomputable def E_impl_in  (n_0 : Int) (low_1 : Int) (high_2 : Int) : Option Bool :=
  bif (decide (n_0 ≥ low_1)) then
    some (decide (n_0 ≤ high_2))
  else
    some false
noncomputable def impl_in (n_0 : Int) (low_1 : Int) (high_2 : Int) : Option Bool := E_impl_in  n_0 low_1 high_2
theorem e_impl_in  : EntryIs0 ctx PP 71 [] [] cv3 cv4 (fun a => E_impl_in  a.1 a.2.1 a.2.2) := fun a => by kernel_rfl
theorem ok_impl_in : Tells ctx PP 71 cv3 cv4 (fun a => impl_in a.1 a.2.1 a.2.2) := fn_ok0 hl_nil Try.func71 (e_impl_in )
noncomputable def H_impl_in {γ : Type} (F : Int → Int → Int → Option Bool) : Hd ctx γ := hdl cv3.dec (fun a => F a.1 a.2.1 a.2.2) cv4.enc
theorem h_impl_in {γ : Type} : HdOk (γ := γ) PP 71 (H_impl_in impl_in) := hd_ok ok_impl_in
noncomputable def E_impl_CallOk (impl_in : Int → Int → Int → Option Bool) (c_0 : SCall) : Option Bool :=
  (impl_in c_0.fOp (1 : Int) (13 : Int)).bind fun r0 =>
  bif r0 then
    (impl_in c_0.fSession (0 : Int) (1000 : Int)).bind fun r1 =>
    bif r1 then
      (impl_in c_0.fThing (0 : Int) (1000 : Int)).bind fun r2 =>
      bif r2 then
        (impl_in c_0.fKind (0 : Int) (3 : Int)).bind fun r3 =>
        bif r3 then
          some (decide ((c_0.fText.size : Int) ≤ 1000))
        else
          some false
      else
        some false
    else
      some false
  else
    some false
noncomputable def impl_CallOk (c_0 : SCall) : Option Bool := E_impl_CallOk impl_in c_0
theorem e_impl_CallOk (impl_in : Int → Int → Int → Option Bool) : EntryIs0 ctx PP 64 [] [(71, H_impl_in impl_in)] cv24 cv4 (fun a => E_impl_CallOk impl_in a) := fun a => by kernel_rfl
theorem ok_impl_CallOk : Tells ctx PP 64 cv24 cv4 (fun a => impl_CallOk a) := fn_ok0 (hl_cons h_impl_in hl_nil) Try.func64 (e_impl_CallOk impl_in)
noncomputable def H_impl_CallOk {γ : Type} (F : SCall → Option Bool) : Hd ctx γ := hdl cv24.dec (fun a => F a) cv4.enc
theorem h_impl_CallOk {γ : Type} : HdOk (γ := γ) PP 64 (H_impl_CallOk impl_CallOk) := hd_ok ok_impl_CallOk
noncomputable def E_impl_EventOk (impl_CallOk : SCall → Option Bool) (e_0 : SEvent) : Option Bool :=
  (impl_CallOk e_0.fCall).bind fun r0 =>
  bif r0 then
    some (decide ((e_0.fLeft.length : Int) ≤ 30))
  else
    bif e_0.fRise then
      bif ((e_0.fCall.fOp == 0) && ((e_0.fCall.fSession == 0) && ((e_0.fCall.fThing == 0) && ((e_0.fCall.fKind == 0) && (((ByteArray.toList e_0.fCall.fText) == (ByteArray.toList (⟨#[]⟩ : ByteArray))) && ((e_0.fCall.fHidden == false) && ((e_0.fCall.fFixed == false) && true))))))) then
        some (decide ((e_0.fLeft.length : Int) ≤ 30))
      else
        some false
    else
      some false
noncomputable def impl_EventOk (e_0 : SEvent) : Option Bool := E_impl_EventOk impl_CallOk e_0
theorem e_impl_EventOk (impl_CallOk : SCall → Option Bool) : EntryIs0 ctx PP 27 [] [(64, H_impl_CallOk impl_CallOk)] cv28 cv4 (fun a => E_impl_EventOk impl_CallOk a) := fun a => by kernel_rfl
theorem ok_impl_EventOk : Tells ctx PP 27 cv28 cv4 (fun a => impl_EventOk a) := fn_ok0 (hl_cons h_impl_CallOk hl_nil) Try.func27 (e_impl_EventOk impl_CallOk)
noncomputable def H_impl_EventOk {γ : Type} (F : SEvent → Option Bool) : Hd ctx γ := hdl cv28.dec (fun a => F a) cv4.enc
theorem h_impl_EventOk {γ : Type} : HdOk (γ := γ) PP 27 (H_impl_EventOk impl_EventOk) := hd_ok ok_impl_EventOk
noncomputable def E_laws_eqCall  (a_0 : SCall) (b_1 : SCall) : Option Bool :=
  bif (a_0.fOp != b_1.fOp) then
    some false
  else
    bif (a_0.fSession != b_1.fSession) then
      some false
    else
      bif (a_0.fThing != b_1.fThing) then
        some false
      else
        bif (a_0.fKind != b_1.fKind) then
          some false
        else
          bif (!((ByteArray.toList a_0.fText) == (ByteArray.toList b_1.fText))) then
            some false
          else
            bif (!(a_0.fHidden == b_1.fHidden)) then
              some false
            else
              bif (!(a_0.fFixed == b_1.fFixed)) then
                some false
              else
                some true
noncomputable def laws_eqCall (a_0 : SCall) (b_1 : SCall) : Option Bool := E_laws_eqCall  a_0 b_1
theorem e_laws_eqCall  : EntryIs0 ctx PP 65 [] [] cv29 cv4 (fun a => E_laws_eqCall  a.1 a.2) := fun a => by kernel_rfl
theorem ok_laws_eqCall : Tells ctx PP 65 cv29 cv4 (fun a => laws_eqCall a.1 a.2) := fn_ok0 hl_nil Try.func65 (e_laws_eqCall )
noncomputable def H_laws_eqCall {γ : Type} (F : SCall → SCall → Option Bool) : Hd ctx γ := hdl cv29.dec (fun a => F a.1 a.2) cv4.enc
theorem h_laws_eqCall {γ : Type} : HdOk (γ := γ) PP 65 (H_laws_eqCall laws_eqCall) := hd_ok ok_laws_eqCall
noncomputable def todo_laws_eqIntS_0 : List Go.Item := [.code (cAt (bodyOf Try.f19) [1, 1, 0, 1, 0, 0, 0, 0]), .code (cAt (bodyOf Try.f19) [1, 1, 0, 1, 0, 0, 0, 1]), .code (cAt (bodyOf Try.f19) [1, 1, 0, 1, 0, 0, 1]), .inLoop (cAt (bodyOf Try.f19) [1, 1, 0, 1, 0, 0]), .inBlock 0, .code (cAt (bodyOf Try.f19) [1, 1, 1])]
inductive St_laws_eqIntS where
  | c0 (a_0 : (List Int)) (b_1 : (List Int)) (i_5 : Int)
noncomputable def at_laws_eqIntS : St_laws_eqIntS → LI
  | .c0 a_0 b_1 i_5 => (todo_laws_eqIntS_0, [(0, [.one (.rsl 3 a_0)]), (1, [.one (.rsl 3 b_1)]), (5, [.one (.int .i64 i_5)])], [])
noncomputable def E_laws_eqIntS  (k : St_laws_eqIntS → Option Bool) (a_0 : (List Int)) (b_1 : (List Int)) : Option Bool :=
  bif ((a_0.length : Int) != (b_1.length : Int)) then
    some false
  else
    k (.c0 a_0 b_1 (0 : Int))
noncomputable def B_laws_eqIntS  (k : St_laws_eqIntS → Option Bool) : St_laws_eqIntS → Option Bool
  | .c0 a_0 b_1 i_5 =>
    bif (decide (i_5 < (a_0.length : Int))) then
      bif ((decide (0 ≤ i_5)) && (decide (i_5 < (a_0.length : Int)))) then
      bif ((decide (0 ≤ i_5)) && (decide (i_5 < (b_1.length : Int)))) then
      bif ((a_0.getD i_5.toNat 0) != (b_1.getD i_5.toNat 0)) then
        some false
      else
        k (.c0 a_0 b_1 (w64 (i_5 + 1)))
      else none
      else none
    else
      some true
noncomputable def L_laws_eqIntS : Nat → St_laws_eqIntS → Option Bool
  | 0, _ => none
  | m + 1, s => B_laws_eqIntS  (L_laws_eqIntS m) s
noncomputable def laws_eqIntS (a_0 : (List Int)) (b_1 : (List Int)) : Option Bool := E_laws_eqIntS  (L_laws_eqIntS gas) a_0 b_1
theorem e_laws_eqIntS  : EntryIs ctx PP 19 [] [] cv14 cv4 at_laws_eqIntS (fun k a => E_laws_eqIntS  k a.1 a.2) := fun stop a => by kernel_rfl
theorem b_laws_eqIntS  : CutIs ctx PP 19 Try.f19 [] [] cv4 at_laws_eqIntS (B_laws_eqIntS ) := fun stop s => by cases s <;> kernel_rfl
theorem i_laws_eqIntS : ∀ s s', at_laws_eqIntS s = at_laws_eqIntS s' → s = s' := by
  intro s s' h
  cases s with
  | c0 v0 v1 v2 => cases s' with
    | c0 w0 w1 w2 => cases h; rfl
theorem ok_laws_eqIntS : Tells ctx PP 19 cv14 cv4 (fun a => laws_eqIntS a.1 a.2) := fn_ok hl_nil Try.func19 i_laws_eqIntS (fun _ => rfl) (fun _ _ => rfl) (b_laws_eqIntS ) (e_laws_eqIntS ) gas
noncomputable def H_laws_eqIntS {γ : Type} (F : (List Int) → (List Int) → Option Bool) : Hd ctx γ := hdl cv14.dec (fun a => F a.1 a.2) cv4.enc
theorem h_laws_eqIntS {γ : Type} : HdOk (γ := γ) PP 19 (H_laws_eqIntS laws_eqIntS) := hd_ok ok_laws_eqIntS
noncomputable def E_laws_eqEvent (laws_eqCall : SCall → SCall → Option Bool) (laws_eqIntS : (List Int) → (List Int) → Option Bool) (a_0 : SEvent) (b_1 : SEvent) : Option Bool :=
  (laws_eqCall a_0.fCall b_1.fCall).bind fun r0 =>
  bif (!r0) then
    some false
  else
    bif (!(a_0.fCut == b_1.fCut)) then
      some false
    else
      (laws_eqIntS a_0.fLeft b_1.fLeft).bind fun r1 =>
      bif (!r1) then
        some false
      else
        bif (!(a_0.fRise == b_1.fRise)) then
          some false
        else
          some true
noncomputable def laws_eqEvent (a_0 : SEvent) (b_1 : SEvent) : Option Bool := E_laws_eqEvent laws_eqCall laws_eqIntS a_0 b_1
theorem e_laws_eqEvent (laws_eqCall : SCall → SCall → Option Bool) (laws_eqIntS : (List Int) → (List Int) → Option Bool) : EntryIs0 ctx PP 28 [] [(65, H_laws_eqCall laws_eqCall), (19, H_laws_eqIntS laws_eqIntS)] cv30 cv4 (fun a => E_laws_eqEvent laws_eqCall laws_eqIntS a.1 a.2) := fun a => by kernel_rfl
theorem ok_laws_eqEvent : Tells ctx PP 28 cv30 cv4 (fun a => laws_eqEvent a.1 a.2) := fn_ok0 (hl_cons h_laws_eqCall (hl_cons h_laws_eqIntS hl_nil)) Try.func28 (e_laws_eqEvent laws_eqCall laws_eqIntS)
noncomputable def H_laws_eqEvent {γ : Type} (F : SEvent → SEvent → Option Bool) : Hd ctx γ := hdl cv30.dec (fun a => F a.1 a.2) cv4.enc
theorem h_laws_eqEvent {γ : Type} : HdOk (γ := γ) PP 28 (H_laws_eqEvent laws_eqEvent) := hd_ok ok_laws_eqEvent
noncomputable def E_laws_FnExactEventOk (laws_szEvent : SEvent → Int → Option Int) (laws_toEvent : SEvent → Option SEvent) (spec_EventOk : SEvent → Option Bool) (impl_EventOk : SEvent → Option Bool) (laws_eqEvent : SEvent → SEvent → Option Bool) (aE_0 : SEvent) : Option Bool :=
  (laws_szEvent aE_0 (1048576 : Int)).bind fun r0 =>
  bif (decide (r0 < 0)) then
    some true
  else
    (laws_toEvent aE_0).bind fun r1 =>
    (spec_EventOk r1).bind fun r2 =>
    (laws_toEvent aE_0).bind fun r3 =>
    (impl_EventOk r3).bind fun r4 =>
    bif (!(r4 == r2)) then
      some false
    else
      (laws_toEvent aE_0).bind fun r5 =>
      (laws_eqEvent r3 r5).bind fun r6 =>
      bif (!r6) then
        some false
      else
        some true
noncomputable def laws_FnExactEventOk (aE_0 : SEvent) : Option Bool := E_laws_FnExactEventOk laws_szEvent laws_toEvent spec_EventOk impl_EventOk laws_eqEvent aE_0
theorem e_laws_FnExactEventOk (laws_szEvent : SEvent → Int → Option Int) (laws_toEvent : SEvent → Option SEvent) (spec_EventOk : SEvent → Option Bool) (impl_EventOk : SEvent → Option Bool) (laws_eqEvent : SEvent → SEvent → Option Bool) : EntryIs0 ctx PP 5 [] [(24, H_laws_szEvent laws_szEvent), (26, H_laws_toEvent laws_toEvent), (25, H_spec_EventOk spec_EventOk), (27, H_impl_EventOk impl_EventOk), (28, H_laws_eqEvent laws_eqEvent)] cv26 cv4 (fun a => E_laws_FnExactEventOk laws_szEvent laws_toEvent spec_EventOk impl_EventOk laws_eqEvent a) := fun a => by kernel_rfl
theorem ok_laws_FnExactEventOk : Tells ctx PP 5 cv26 cv4 (fun a => laws_FnExactEventOk a) := fn_ok0 (hl_cons h_laws_szEvent (hl_cons h_laws_toEvent (hl_cons h_spec_EventOk (hl_cons h_impl_EventOk (hl_cons h_laws_eqEvent hl_nil))))) Try.func5 (e_laws_FnExactEventOk laws_szEvent laws_toEvent spec_EventOk impl_EventOk laws_eqEvent)
noncomputable def H_laws_FnExactEventOk {γ : Type} (F : SEvent → Option Bool) : Hd ctx γ := hdl cv26.dec (fun a => F a) cv4.enc
theorem h_laws_FnExactEventOk {γ : Type} : HdOk (γ := γ) PP 5 (H_laws_FnExactEventOk laws_FnExactEventOk) := hd_ok ok_laws_FnExactEventOk
end Go.Proofs.Ytmhggcgkbenedaa.G
