/- Functions of the program, told by plain functions: part 1 of 1. -/
import Derived.Test.YtldjkjjfoofccaaDoorCtx
namespace Go.Proofs.YtldjkjjfoofccaaDoor.G
open Go Go.Ev
noncomputable def E_laws_szThing  (a_0 : SThing) (left_1 : Int) : Option Int :=
  bif (decide ((w64 (left_1 - (a_0.fValue.size : Int))) < 0)) then
    some (-(1 : Int))
  else
    some (w64 (left_1 - (a_0.fValue.size : Int)))
noncomputable def laws_szThing (a_0 : SThing) (left_1 : Int) : Option Int := E_laws_szThing  a_0 left_1
theorem e_laws_szThing  : EntryIs0 ctx PP 58 [] [] cv24 cv0 (fun a => E_laws_szThing  a.1 a.2) := fun a => by kernel_rfl
theorem ok_laws_szThing : Tells ctx PP 58 cv24 cv0 (fun a => laws_szThing a.1 a.2) := fn_ok0 hl_nil Tryd.func58 (e_laws_szThing )
noncomputable def H_laws_szThing {γ : Type} (F : SThing → Int → Option Int) : Hd ctx γ := hdl cv24.dec (fun a => F a.1 a.2) cv0.enc
theorem h_laws_szThing {γ : Type} : HdOk (γ := γ) PP 58 (H_laws_szThing laws_szThing) := hd_ok ok_laws_szThing
noncomputable def todo_laws_szThingS_0 : List Go.Item := [.code (cAt (bodyOf Tryd.f73) [1, 1, 1, 0, 1, 0, 0, 0, 0]), .code (cAt (bodyOf Tryd.f73) [1, 1, 1, 0, 1, 0, 0, 0, 1]), .code (cAt (bodyOf Tryd.f73) [1, 1, 1, 0, 1, 0, 0, 1]), .inLoop (cAt (bodyOf Tryd.f73) [1, 1, 1, 0, 1, 0, 0]), .inBlock 0, .code (cAt (bodyOf Tryd.f73) [1, 1, 1, 1])]
inductive St_laws_szThingS where
  | c0 (a_0 : (List SThing)) (left_1 : Int) (i_5 : Int)
noncomputable def at_laws_szThingS : St_laws_szThingS → LI
  | .c0 a_0 left_1 i_5 => (todo_laws_szThingS_0, [(0, [.one (.rsl 26 a_0)]), (1, [.one (.int .i64 left_1)]), (5, [.one (.int .i64 i_5)])], [])
noncomputable def E_laws_szThingS (laws_szThing : SThing → Int → Option Int) (k : St_laws_szThingS → Option Int) (a_0 : (List SThing)) (left_1 : Int) : Option Int :=
  bif (decide ((w64 (left_1 - (a_0.length : Int))) < 0)) then
    some (-(1 : Int))
  else
    k (.c0 a_0 (w64 (left_1 - (a_0.length : Int))) (0 : Int))
noncomputable def B_laws_szThingS (laws_szThing : SThing → Int → Option Int) (k : St_laws_szThingS → Option Int) : St_laws_szThingS → Option Int
  | .c0 a_0 left_1 i_5 =>
    bif (decide (i_5 < (a_0.length : Int))) then
      bif ((decide (0 ≤ i_5)) && (decide (i_5 < (a_0.length : Int)))) then
      (laws_szThing (a_0.getD i_5.toNat (⟨(0 : Int), (0 : Int), false, false, false, false, (⟨#[]⟩ : ByteArray), (0 : Int)⟩ : SThing)) left_1).bind fun r0 =>
      bif (decide (r0 < 0)) then
        some (-(1 : Int))
      else
        k (.c0 a_0 r0 (w64 (i_5 + 1)))
      else none
    else
      some left_1
noncomputable def L_laws_szThingS : Nat → St_laws_szThingS → Option Int
  | 0, _ => none
  | m + 1, s => B_laws_szThingS laws_szThing (L_laws_szThingS m) s
noncomputable def laws_szThingS (a_0 : (List SThing)) (left_1 : Int) : Option Int := E_laws_szThingS laws_szThing (L_laws_szThingS gas) a_0 left_1
theorem e_laws_szThingS (laws_szThing : SThing → Int → Option Int) : EntryIs ctx PP 73 [] [(58, H_laws_szThing laws_szThing)] cv55 cv0 at_laws_szThingS (fun k a => E_laws_szThingS laws_szThing k a.1 a.2) := fun stop a => by kernel_rfl
theorem b_laws_szThingS (laws_szThing : SThing → Int → Option Int) : CutIs ctx PP 73 Tryd.f73 [] [(58, H_laws_szThing laws_szThing)] cv0 at_laws_szThingS (B_laws_szThingS laws_szThing) := fun stop s => by cases s <;> kernel_rfl
theorem i_laws_szThingS : ∀ s s', at_laws_szThingS s = at_laws_szThingS s' → s = s' := by
  intro s s' h
  cases s with
  | c0 v0 v1 v2 => cases s' with
    | c0 w0 w1 w2 => cases h; rfl
theorem ok_laws_szThingS : Tells ctx PP 73 cv55 cv0 (fun a => laws_szThingS a.1 a.2) := fn_ok (hl_cons h_laws_szThing hl_nil) Tryd.func73 i_laws_szThingS (fun _ => rfl) (fun _ _ => rfl) (b_laws_szThingS laws_szThing) (e_laws_szThingS laws_szThing) gas
noncomputable def H_laws_szThingS {γ : Type} (F : (List SThing) → Int → Option Int) : Hd ctx γ := hdl cv55.dec (fun a => F a.1 a.2) cv0.enc
theorem h_laws_szThingS {γ : Type} : HdOk (γ := γ) PP 73 (H_laws_szThingS laws_szThingS) := hd_ok ok_laws_szThingS
noncomputable def E_laws_szBook (laws_szThingS : (List SThing) → Int → Option Int) (a_0 : SBook) (left_1 : Int) : Option Int :=
  bif (decide ((w64 (left_1 - (a_0.fWord.size : Int))) < 0)) then
    some (-(1 : Int))
  else
    (laws_szThingS a_0.fThings (w64 (left_1 - (a_0.fWord.size : Int)))).bind fun r0 =>
    bif (decide (r0 < 0)) then
      some (-(1 : Int))
    else
      bif (decide ((w64 (r0 - (a_0.fChain.size : Int))) < 0)) then
        some (-(1 : Int))
      else
        some (w64 (r0 - (a_0.fChain.size : Int)))
noncomputable def laws_szBook (a_0 : SBook) (left_1 : Int) : Option Int := E_laws_szBook laws_szThingS a_0 left_1
theorem e_laws_szBook (laws_szThingS : (List SThing) → Int → Option Int) : EntryIs0 ctx PP 28 [] [(73, H_laws_szThingS laws_szThingS)] cv56 cv0 (fun a => E_laws_szBook laws_szThingS a.1 a.2) := fun a => by kernel_rfl
theorem ok_laws_szBook : Tells ctx PP 28 cv56 cv0 (fun a => laws_szBook a.1 a.2) := fn_ok0 (hl_cons h_laws_szThingS hl_nil) Tryd.func28 (e_laws_szBook laws_szThingS)
noncomputable def H_laws_szBook {γ : Type} (F : SBook → Int → Option Int) : Hd ctx γ := hdl cv56.dec (fun a => F a.1 a.2) cv0.enc
theorem h_laws_szBook {γ : Type} : HdOk (γ := γ) PP 28 (H_laws_szBook laws_szBook) := hd_ok ok_laws_szBook
noncomputable def E_laws_szRec (laws_szThing : SThing → Int → Option Int) (a_0 : SRec) (left_1 : Int) : Option Int :=
  bif (decide ((w64 (left_1 - (a_0.fText.size : Int))) < 0)) then
    some (-(1 : Int))
  else
    (laws_szThing a_0.fThing (w64 (left_1 - (a_0.fText.size : Int)))).bind fun r0 =>
    bif (decide (r0 < 0)) then
      some (-(1 : Int))
    else
      some r0
noncomputable def laws_szRec (a_0 : SRec) (left_1 : Int) : Option Int := E_laws_szRec laws_szThing a_0 left_1
theorem e_laws_szRec (laws_szThing : SThing → Int → Option Int) : EntryIs0 ctx PP 16 [] [(58, H_laws_szThing laws_szThing)] cv25 cv0 (fun a => E_laws_szRec laws_szThing a.1 a.2) := fun a => by kernel_rfl
theorem ok_laws_szRec : Tells ctx PP 16 cv25 cv0 (fun a => laws_szRec a.1 a.2) := fn_ok0 (hl_cons h_laws_szThing hl_nil) Tryd.func16 (e_laws_szRec laws_szThing)
noncomputable def H_laws_szRec {γ : Type} (F : SRec → Int → Option Int) : Hd ctx γ := hdl cv25.dec (fun a => F a.1 a.2) cv0.enc
theorem h_laws_szRec {γ : Type} : HdOk (γ := γ) PP 16 (H_laws_szRec laws_szRec) := hd_ok ok_laws_szRec
noncomputable def E_laws_toThing  (a_0 : SThing) : Option SThing :=
  some a_0
noncomputable def laws_toThing (a_0 : SThing) : Option SThing := E_laws_toThing  a_0
theorem e_laws_toThing  : EntryIs0 ctx PP 62 [] [] cv26 cv26 (fun a => E_laws_toThing  a) := fun a => by kernel_rfl
theorem ok_laws_toThing : Tells ctx PP 62 cv26 cv26 (fun a => laws_toThing a) := fn_ok0 hl_nil Tryd.func62 (e_laws_toThing )
noncomputable def H_laws_toThing {γ : Type} (F : SThing → Option SThing) : Hd ctx γ := hdl cv26.dec (fun a => F a) cv26.enc
theorem h_laws_toThing {γ : Type} : HdOk (γ := γ) PP 62 (H_laws_toThing laws_toThing) := hd_ok ok_laws_toThing
noncomputable def todo_laws_toThingS_0 : List Go.Item := [.code (cAt (bodyOf Tryd.f79) [1, 1, 0, 1, 0, 0, 0, 0]), .code (cAt (bodyOf Tryd.f79) [1, 1, 0, 1, 0, 0, 0, 1]), .code (cAt (bodyOf Tryd.f79) [1, 1, 0, 1, 0, 0, 1]), .inLoop (cAt (bodyOf Tryd.f79) [1, 1, 0, 1, 0, 0]), .inBlock 0, .code (cAt (bodyOf Tryd.f79) [1, 1, 1])]
inductive St_laws_toThingS where
  | c0 (a_0 : (List SThing)) (i_4 : Int) (out_3 : (List SThing))
noncomputable def at_laws_toThingS : St_laws_toThingS → LI
  | .c0 a_0 i_4 out_3 => (todo_laws_toThingS_0, [(0, [.one (.rsl 26 a_0)]), (3, [.one (.own 240)]), (4, [.one (.int .i64 i_4)])], [(240, .sl 33 out_3)])
noncomputable def E_laws_toThingS (laws_toThing : SThing → Option SThing) (k : St_laws_toThingS → Option (List SThing)) (a_0 : (List SThing)) : Option (List SThing) :=
  bif ((((decide (0 ≤ (a_0.length : Int))) && (decide ((a_0.length : Int) ≤ (a_0.length : Int)))) && (decide ((a_0.length : Int) ≤ 9223372036854775807))) && (decide (((a_0.length : Int).toNat * 48) ≤ 140737488355328))) then
  k (.c0 a_0 (0 : Int) (List.replicate (a_0.length : Int).toNat (⟨(0 : Int), (0 : Int), false, false, false, false, (⟨#[]⟩ : ByteArray), (0 : Int)⟩ : SThing)))
  else none
noncomputable def B_laws_toThingS (laws_toThing : SThing → Option SThing) (k : St_laws_toThingS → Option (List SThing)) : St_laws_toThingS → Option (List SThing)
  | .c0 a_0 i_4 out_3 =>
    bif (decide (i_4 < (a_0.length : Int))) then
      bif ((decide (0 ≤ i_4)) && (decide (i_4 < (a_0.length : Int)))) then
      (laws_toThing (a_0.getD i_4.toNat (⟨(0 : Int), (0 : Int), false, false, false, false, (⟨#[]⟩ : ByteArray), (0 : Int)⟩ : SThing))).bind fun r0 =>
      bif ((decide (0 ≤ i_4)) && (decide (i_4 < (out_3.length : Int)))) then
      k (.c0 a_0 (w64 (i_4 + 1)) (out_3.set i_4.toNat r0))
      else none
      else none
    else
      some out_3
noncomputable def L_laws_toThingS : Nat → St_laws_toThingS → Option (List SThing)
  | 0, _ => none
  | m + 1, s => B_laws_toThingS laws_toThing (L_laws_toThingS m) s
noncomputable def laws_toThingS (a_0 : (List SThing)) : Option (List SThing) := E_laws_toThingS laws_toThing (L_laws_toThingS gas) a_0
theorem e_laws_toThingS (laws_toThing : SThing → Option SThing) : EntryIs ctx PP 79 [] [(62, H_laws_toThing laws_toThing)] cv57 cv47 at_laws_toThingS (fun k a => E_laws_toThingS laws_toThing k a) := fun stop a => by kernel_rfl
theorem b_laws_toThingS (laws_toThing : SThing → Option SThing) : CutIs ctx PP 79 Tryd.f79 [] [(62, H_laws_toThing laws_toThing)] cv47 at_laws_toThingS (B_laws_toThingS laws_toThing) := fun stop s => by cases s <;> kernel_rfl
theorem i_laws_toThingS : ∀ s s', at_laws_toThingS s = at_laws_toThingS s' → s = s' := by
  intro s s' h
  cases s with
  | c0 v0 v1 v2 => cases s' with
    | c0 w0 w1 w2 => cases h; rfl
theorem ok_laws_toThingS : Tells ctx PP 79 cv57 cv47 (fun a => laws_toThingS a) := fn_ok (hl_cons h_laws_toThing hl_nil) Tryd.func79 i_laws_toThingS (fun _ => rfl) (fun _ _ => rfl) (b_laws_toThingS laws_toThing) (e_laws_toThingS laws_toThing) gas
noncomputable def H_laws_toThingS {γ : Type} (F : (List SThing) → Option (List SThing)) : Hd ctx γ := hdl cv57.dec (fun a => F a) cv47.enc
theorem h_laws_toThingS {γ : Type} : HdOk (γ := γ) PP 79 (H_laws_toThingS laws_toThingS) := hd_ok ok_laws_toThingS
noncomputable def E_laws_toBook (laws_toThingS : (List SThing) → Option (List SThing)) (a_0 : SBook) : Option SBook :=
  (laws_toThingS a_0.fThings).bind fun r0 =>
  some (⟨a_0.fWord, a_0.fTries, r0, a_0.fLast, a_0.fChain, a_0.fCount⟩ : SBook)
noncomputable def laws_toBook (a_0 : SBook) : Option SBook := E_laws_toBook laws_toThingS a_0
theorem e_laws_toBook (laws_toThingS : (List SThing) → Option (List SThing)) : EntryIs0 ctx PP 30 [] [(79, H_laws_toThingS laws_toThingS)] cv58 cv41 (fun a => E_laws_toBook laws_toThingS a) := fun a => by kernel_rfl
theorem ok_laws_toBook : Tells ctx PP 30 cv58 cv41 (fun a => laws_toBook a) := fn_ok0 (hl_cons h_laws_toThingS hl_nil) Tryd.func30 (e_laws_toBook laws_toThingS)
noncomputable def H_laws_toBook {γ : Type} (F : SBook → Option SBook) : Hd ctx γ := hdl cv58.dec (fun a => F a) cv41.enc
theorem h_laws_toBook {γ : Type} : HdOk (γ := γ) PP 30 (H_laws_toBook laws_toBook) := hd_ok ok_laws_toBook
noncomputable def E_laws_toRec (laws_toThing : SThing → Option SThing) (a_0 : SRec) : Option SRec :=
  (laws_toThing a_0.fThing).bind fun r0 =>
  some (⟨a_0.fKind, a_0.fText, a_0.fNum, r0⟩ : SRec)
noncomputable def laws_toRec (a_0 : SRec) : Option SRec := E_laws_toRec laws_toThing a_0
theorem e_laws_toRec (laws_toThing : SThing → Option SThing) : EntryIs0 ctx PP 18 [] [(62, H_laws_toThing laws_toThing)] cv27 cv27 (fun a => E_laws_toRec laws_toThing a) := fun a => by kernel_rfl
theorem ok_laws_toRec : Tells ctx PP 18 cv27 cv27 (fun a => laws_toRec a) := fn_ok0 (hl_cons h_laws_toThing hl_nil) Tryd.func18 (e_laws_toRec laws_toThing)
noncomputable def H_laws_toRec {γ : Type} (F : SRec → Option SRec) : Hd ctx γ := hdl cv27.dec (fun a => F a) cv27.enc
theorem h_laws_toRec {γ : Type} : HdOk (γ := γ) PP 18 (H_laws_toRec laws_toRec) := hd_ok ok_laws_toRec
noncomputable def E_spec_l01In  (x_0 : Int) (least_1 : Int) (most_2 : Int) : Option Bool :=
  bif (decide (x_0 ≥ least_1)) then
    some (decide (x_0 ≤ most_2))
  else
    some false
noncomputable def spec_l01In (x_0 : Int) (least_1 : Int) (most_2 : Int) : Option Bool := E_spec_l01In  x_0 least_1 most_2
theorem e_spec_l01In  : EntryIs0 ctx PP 60 [] [] cv2 cv3 (fun a => E_spec_l01In  a.1 a.2.1 a.2.2) := fun a => by kernel_rfl
theorem ok_spec_l01In : Tells ctx PP 60 cv2 cv3 (fun a => spec_l01In a.1 a.2.1 a.2.2) := fn_ok0 hl_nil Tryd.func60 (e_spec_l01In )
noncomputable def H_spec_l01In {γ : Type} (F : Int → Int → Int → Option Bool) : Hd ctx γ := hdl cv2.dec (fun a => F a.1 a.2.1 a.2.2) cv3.enc
theorem h_spec_l01In {γ : Type} : HdOk (γ := γ) PP 60 (H_spec_l01In spec_l01In) := hd_ok ok_spec_l01In
noncomputable def todo_spec_l01Var_0 : List Go.Item := [.code (cAt (bodyOf Tryd.f50) [1, 1, 0, 0, 0, 0, 0]), .code (cAt (bodyOf Tryd.f50) [1, 1, 0, 0, 0, 0, 1]), .code (cAt (bodyOf Tryd.f50) [1, 1, 0, 0, 0, 1]), .inLoop (cAt (bodyOf Tryd.f50) [1, 1, 0, 0, 0]), .inBlock 0, .code (cAt (bodyOf Tryd.f50) [1, 1, 1])]
inductive St_spec_l01Var where
  | c0 (n_0 : Int) (out_3 : (List Int))
noncomputable def at_spec_l01Var : St_spec_l01Var → LI
  | .c0 n_0 out_3 => (todo_spec_l01Var_0, [(0, [.one (.int .i64 n_0)]), (3, [.one (.own 240)])], [(240, .sl 5 out_3)])
noncomputable def E_spec_l01Var  (k : St_spec_l01Var → Option ByteArray) (n_0 : Int) : Option ByteArray :=
  k (.c0 n_0 [])
noncomputable def B_spec_l01Var  (k : St_spec_l01Var → Option ByteArray) : St_spec_l01Var → Option ByteArray
  | .c0 n_0 out_3 =>
    bif (decide (n_0 > 127)) then
      bif (decide (((out_3.length + 1) * 1) ≤ 140737488355328)) then
      k (.c0 (w64 (n_0.tdiv 128)) (out_3 ++ [(w8 (w64 ((n_0.tmod 128) + 128)))]))
      else none
    else
      bif (decide (((out_3.length + 1) * 1) ≤ 140737488355328)) then
      some (ofBytes (out_3 ++ [(w8 n_0)]))
      else none
noncomputable def L_spec_l01Var : Nat → St_spec_l01Var → Option ByteArray
  | 0, _ => none
  | m + 1, s => B_spec_l01Var  (L_spec_l01Var m) s
noncomputable def spec_l01Var (n_0 : Int) : Option ByteArray := E_spec_l01Var  (L_spec_l01Var gas) n_0
theorem e_spec_l01Var  : EntryIs ctx PP 50 [] [] cv0 cv1 at_spec_l01Var (fun k a => E_spec_l01Var  k a) := fun stop a => by kernel_rfl
theorem b_spec_l01Var  : CutIs ctx PP 50 Tryd.f50 [] [] cv1 at_spec_l01Var (B_spec_l01Var ) := fun stop s => by cases s <;> kernel_rfl
theorem i_spec_l01Var : ∀ s s', at_spec_l01Var s = at_spec_l01Var s' → s = s' := by
  intro s s' h
  cases s with
  | c0 v0 v1 => cases s' with
    | c0 w0 w1 => cases h; rfl
theorem ok_spec_l01Var : Tells ctx PP 50 cv0 cv1 (fun a => spec_l01Var a) := fn_ok hl_nil Tryd.func50 i_spec_l01Var (fun _ => rfl) (fun _ _ => rfl) (b_spec_l01Var ) (e_spec_l01Var ) gas
noncomputable def H_spec_l01Var {γ : Type} (F : Int → Option ByteArray) : Hd ctx γ := hdl cv0.dec (fun a => F a) cv1.enc
theorem h_spec_l01Var {γ : Type} : HdOk (γ := γ) PP 50 (H_spec_l01Var spec_l01Var) := hd_ok ok_spec_l01Var
noncomputable def E_spec_ThingOk (spec_l01In : Int → Int → Int → Option Bool) (x_0 : SThing) : Option Bool :=
  (spec_l01In x_0.fId (1 : Int) (1000 : Int)).bind fun r0 =>
  bif (!r0) then
    some false
  else
    (spec_l01In x_0.fKind (1 : Int) (3 : Int)).bind fun r1 =>
    bif (!r1) then
      some false
    else
      (spec_l01In x_0.fNext (0 : Int) (16 : Int)).bind fun r2 =>
      bif (!r2) then
        some false
      else
        bif (x_0.fKind != 2) then
          bif (x_0.fNext != 0) then
            some false
          else
            bif x_0.fSigns then
              some false
            else
              bif (x_0.fKind != 1) then
                bif x_0.fWraps then
                  some false
                else
                  bif (x_0.fKind == 3) then
                    some (decide ((x_0.fValue.size : Int) ≤ 100))
                  else
                    some ((x_0.fValue.size : Int) == 32)
              else
                bif (x_0.fKind == 3) then
                  some (decide ((x_0.fValue.size : Int) ≤ 100))
                else
                  some ((x_0.fValue.size : Int) == 32)
        else
          bif (x_0.fKind != 1) then
            bif x_0.fWraps then
              some false
            else
              bif (x_0.fKind == 3) then
                some (decide ((x_0.fValue.size : Int) ≤ 100))
              else
                some ((x_0.fValue.size : Int) == 32)
          else
            bif (x_0.fKind == 3) then
              some (decide ((x_0.fValue.size : Int) ≤ 100))
            else
              some ((x_0.fValue.size : Int) == 32)
noncomputable def spec_ThingOk (x_0 : SThing) : Option Bool := E_spec_ThingOk spec_l01In x_0
theorem e_spec_ThingOk (spec_l01In : Int → Int → Int → Option Bool) : EntryIs0 ctx PP 127 [] [(60, H_spec_l01In spec_l01In)] cv26 cv3 (fun a => E_spec_ThingOk spec_l01In a) := fun a => by kernel_rfl
theorem ok_spec_ThingOk : Tells ctx PP 127 cv26 cv3 (fun a => spec_ThingOk a) := fn_ok0 (hl_cons h_spec_l01In hl_nil) Tryd.func127 (e_spec_ThingOk spec_l01In)
noncomputable def H_spec_ThingOk {γ : Type} (F : SThing → Option Bool) : Hd ctx γ := hdl cv26.dec (fun a => F a) cv3.enc
theorem h_spec_ThingOk {γ : Type} : HdOk (γ := γ) PP 127 (H_spec_ThingOk spec_ThingOk) := hd_ok ok_spec_ThingOk
noncomputable def E_spec_l19Flag  (x_0 : Bool) (n_1 : Int) : Option Int :=
  bif x_0 then
    some n_1
  else
    some (0 : Int)
noncomputable def spec_l19Flag (x_0 : Bool) (n_1 : Int) : Option Int := E_spec_l19Flag  x_0 n_1
theorem e_spec_l19Flag  : EntryIs0 ctx PP 155 [] [] cv28 cv0 (fun a => E_spec_l19Flag  a.1 a.2) := fun a => by kernel_rfl
theorem ok_spec_l19Flag : Tells ctx PP 155 cv28 cv0 (fun a => spec_l19Flag a.1 a.2) := fn_ok0 hl_nil Tryd.func155 (e_spec_l19Flag )
noncomputable def H_spec_l19Flag {γ : Type} (F : Bool → Int → Option Int) : Hd ctx γ := hdl cv28.dec (fun a => F a.1 a.2) cv0.enc
theorem h_spec_l19Flag {γ : Type} : HdOk (γ := γ) PP 155 (H_spec_l19Flag spec_l19Flag) := hd_ok ok_spec_l19Flag
noncomputable def E_spec_l06Byte  (n_0 : Int) : Option ByteArray :=
  bif (decide ((n_0.tmod 256) < 0)) then
    some (ofBytes [(w8 (w64 ((n_0.tmod 256) + 256)))])
  else
    some (ofBytes [(w8 (n_0.tmod 256))])
noncomputable def spec_l06Byte (n_0 : Int) : Option ByteArray := E_spec_l06Byte  n_0
theorem e_spec_l06Byte  : EntryIs0 ctx PP 152 [] [] cv0 cv1 (fun a => E_spec_l06Byte  a) := fun a => by kernel_rfl
theorem ok_spec_l06Byte : Tells ctx PP 152 cv0 cv1 (fun a => spec_l06Byte a) := fn_ok0 hl_nil Tryd.func152 (e_spec_l06Byte )
noncomputable def H_spec_l06Byte {γ : Type} (F : Int → Option ByteArray) : Hd ctx γ := hdl cv0.dec (fun a => F a) cv1.enc
theorem h_spec_l06Byte {γ : Type} : HdOk (γ := γ) PP 152 (H_spec_l06Byte spec_l06Byte) := hd_ok ok_spec_l06Byte
noncomputable def E_spec_l19Short (spec_l01Var : Int → Option ByteArray) (s_0 : ByteArray) : Option ByteArray :=
  (spec_l01Var (s_0.size : Int)).bind fun r0 =>
  bif (decide ((r0.size + s_0.size) ≤ 9223372036854775807)) then
  some (r0 ++ s_0)
  else none
noncomputable def spec_l19Short (s_0 : ByteArray) : Option ByteArray := E_spec_l19Short spec_l01Var s_0
theorem e_spec_l19Short (spec_l01Var : Int → Option ByteArray) : EntryIs0 ctx PP 156 [] [(50, H_spec_l01Var spec_l01Var)] cv1 cv1 (fun a => E_spec_l19Short spec_l01Var a) := fun a => by kernel_rfl
theorem ok_spec_l19Short : Tells ctx PP 156 cv1 cv1 (fun a => spec_l19Short a) := fn_ok0 (hl_cons h_spec_l01Var hl_nil) Tryd.func156 (e_spec_l19Short spec_l01Var)
noncomputable def H_spec_l19Short {γ : Type} (F : ByteArray → Option ByteArray) : Hd ctx γ := hdl cv1.dec (fun a => F a) cv1.enc
theorem h_spec_l19Short {γ : Type} : HdOk (γ := γ) PP 156 (H_spec_l19Short spec_l19Short) := hd_ok ok_spec_l19Short
noncomputable def E_spec_ThingText (spec_ThingOk : SThing → Option Bool) (spec_l19Flag : Bool → Int → Option Int) (spec_l01Var : Int → Option ByteArray) (spec_l06Byte : Int → Option ByteArray) (spec_l19Short : ByteArray → Option ByteArray) (x_0 : SThing) : Option (ByteArray × Bool) :=
  (spec_ThingOk x_0).bind fun r0 =>
  bif (!r0) then
    some ((⟨#[]⟩ : ByteArray), false)
  else
    (spec_l19Flag x_0.fHidden (1 : Int)).bind fun r1 =>
    (spec_l19Flag x_0.fFixed (2 : Int)).bind fun r2 =>
    (spec_l19Flag x_0.fSigns (4 : Int)).bind fun r3 =>
    (spec_l19Flag x_0.fWraps (8 : Int)).bind fun r4 =>
    (spec_l01Var x_0.fId).bind fun r5 =>
    (spec_l06Byte x_0.fKind).bind fun r6 =>
    bif (decide ((r5.size + r6.size) ≤ 9223372036854775807)) then
    (spec_l06Byte (w64 ((w64 ((w64 (r1 + r2)) + r3)) + r4))).bind fun r7 =>
    bif (decide (((r5 ++ r6).size + r7.size) ≤ 9223372036854775807)) then
    (spec_l19Short x_0.fValue).bind fun r8 =>
    bif (decide ((((r5 ++ r6) ++ r7).size + r8.size) ≤ 9223372036854775807)) then
    (spec_l01Var x_0.fNext).bind fun r9 =>
    bif (decide (((((r5 ++ r6) ++ r7) ++ r8).size + r9.size) ≤ 9223372036854775807)) then
    some (((((r5 ++ r6) ++ r7) ++ r8) ++ r9), true)
    else none
    else none
    else none
    else none
noncomputable def spec_ThingText (x_0 : SThing) : Option (ByteArray × Bool) := E_spec_ThingText spec_ThingOk spec_l19Flag spec_l01Var spec_l06Byte spec_l19Short x_0
theorem e_spec_ThingText (spec_ThingOk : SThing → Option Bool) (spec_l19Flag : Bool → Int → Option Int) (spec_l01Var : Int → Option ByteArray) (spec_l06Byte : Int → Option ByteArray) (spec_l19Short : ByteArray → Option ByteArray) : EntryIs0 ctx PP 118 [] [(127, H_spec_ThingOk spec_ThingOk), (155, H_spec_l19Flag spec_l19Flag), (50, H_spec_l01Var spec_l01Var), (152, H_spec_l06Byte spec_l06Byte), (156, H_spec_l19Short spec_l19Short)] cv26 cv17 (fun a => E_spec_ThingText spec_ThingOk spec_l19Flag spec_l01Var spec_l06Byte spec_l19Short a) := fun a => by kernel_rfl
theorem ok_spec_ThingText : Tells ctx PP 118 cv26 cv17 (fun a => spec_ThingText a) := fn_ok0 (hl_cons h_spec_ThingOk (hl_cons h_spec_l19Flag (hl_cons h_spec_l01Var (hl_cons h_spec_l06Byte (hl_cons h_spec_l19Short hl_nil))))) Tryd.func118 (e_spec_ThingText spec_ThingOk spec_l19Flag spec_l01Var spec_l06Byte spec_l19Short)
noncomputable def H_spec_ThingText {γ : Type} (F : SThing → Option (ByteArray × Bool)) : Hd ctx γ := hdl cv26.dec (fun a => F a) cv17.enc
theorem h_spec_ThingText {γ : Type} : HdOk (γ := γ) PP 118 (H_spec_ThingText spec_ThingText) := hd_ok ok_spec_ThingText
noncomputable def E_spec_RecText (spec_l01In : Int → Int → Int → Option Bool) (spec_l01Var : Int → Option ByteArray) (spec_ThingText : SThing → Option (ByteArray × Bool)) (r_0 : SRec) : Option (ByteArray × Bool) :=
  bif (r_0.fKind == 1) then
    bif ((r_0.fText.size : Int) == 32) then
      bif (r_0.fNum == 0) then
        bif ((r_0.fThing.fId == 0) && ((r_0.fThing.fKind == 0) && ((r_0.fThing.fHidden == false) && ((r_0.fThing.fFixed == false) && ((r_0.fThing.fSigns == false) && ((r_0.fThing.fWraps == false) && (((ByteArray.toList r_0.fThing.fValue) == (ByteArray.toList (⟨#[]⟩ : ByteArray))) && ((r_0.fThing.fNext == 0) && true)))))))) then
          bif (decide (((⟨#[1]⟩ : ByteArray).size + r_0.fText.size) ≤ 9223372036854775807)) then
          some (((⟨#[1]⟩ : ByteArray) ++ r_0.fText), true)
          else none
        else
          some ((⟨#[]⟩ : ByteArray), false)
      else
        some ((⟨#[]⟩ : ByteArray), false)
    else
      some ((⟨#[]⟩ : ByteArray), false)
  else
    bif (r_0.fKind == 2) then
      bif ((ByteArray.toList r_0.fText) == (ByteArray.toList (⟨#[]⟩ : ByteArray))) then
        bif ((r_0.fThing.fId == 0) && ((r_0.fThing.fKind == 0) && ((r_0.fThing.fHidden == false) && ((r_0.fThing.fFixed == false) && ((r_0.fThing.fSigns == false) && ((r_0.fThing.fWraps == false) && (((ByteArray.toList r_0.fThing.fValue) == (ByteArray.toList (⟨#[]⟩ : ByteArray))) && ((r_0.fThing.fNext == 0) && true)))))))) then
          (spec_l01In r_0.fNum (0 : Int) (3 : Int)).bind fun r0 =>
          bif r0 then
            (spec_l01Var r_0.fNum).bind fun r1 =>
            bif (decide (((⟨#[2]⟩ : ByteArray).size + r1.size) ≤ 9223372036854775807)) then
            some (((⟨#[2]⟩ : ByteArray) ++ r1), true)
            else none
          else
            some ((⟨#[]⟩ : ByteArray), false)
        else
          some ((⟨#[]⟩ : ByteArray), false)
      else
        some ((⟨#[]⟩ : ByteArray), false)
    else
      bif (r_0.fKind == 3) then
        (spec_ThingText r_0.fThing).bind fun r2 =>
        bif r2.2 then
          bif ((ByteArray.toList r_0.fText) == (ByteArray.toList (⟨#[]⟩ : ByteArray))) then
            bif (r_0.fNum == 0) then
              bif (decide (((⟨#[3]⟩ : ByteArray).size + r2.1.size) ≤ 9223372036854775807)) then
              some (((⟨#[3]⟩ : ByteArray) ++ r2.1), true)
              else none
            else
              some ((⟨#[]⟩ : ByteArray), false)
          else
            some ((⟨#[]⟩ : ByteArray), false)
        else
          some ((⟨#[]⟩ : ByteArray), false)
      else
        bif (r_0.fKind == 4) then
          bif ((ByteArray.toList r_0.fText) == (ByteArray.toList (⟨#[]⟩ : ByteArray))) then
            bif ((r_0.fThing.fId == 0) && ((r_0.fThing.fKind == 0) && ((r_0.fThing.fHidden == false) && ((r_0.fThing.fFixed == false) && ((r_0.fThing.fSigns == false) && ((r_0.fThing.fWraps == false) && (((ByteArray.toList r_0.fThing.fValue) == (ByteArray.toList (⟨#[]⟩ : ByteArray))) && ((r_0.fThing.fNext == 0) && true)))))))) then
              (spec_l01In r_0.fNum (1 : Int) (1000 : Int)).bind fun r3 =>
              bif r3 then
                (spec_l01Var r_0.fNum).bind fun r4 =>
                bif (decide (((⟨#[4]⟩ : ByteArray).size + r4.size) ≤ 9223372036854775807)) then
                some (((⟨#[4]⟩ : ByteArray) ++ r4), true)
                else none
              else
                some ((⟨#[]⟩ : ByteArray), false)
            else
              some ((⟨#[]⟩ : ByteArray), false)
          else
            some ((⟨#[]⟩ : ByteArray), false)
        else
          some ((⟨#[]⟩ : ByteArray), false)
noncomputable def spec_RecText (r_0 : SRec) : Option (ByteArray × Bool) := E_spec_RecText spec_l01In spec_l01Var spec_ThingText r_0
theorem e_spec_RecText (spec_l01In : Int → Int → Int → Option Bool) (spec_l01Var : Int → Option ByteArray) (spec_ThingText : SThing → Option (ByteArray × Bool)) : EntryIs0 ctx PP 59 [] [(60, H_spec_l01In spec_l01In), (50, H_spec_l01Var spec_l01Var), (118, H_spec_ThingText spec_ThingText)] cv27 cv17 (fun a => E_spec_RecText spec_l01In spec_l01Var spec_ThingText a) := fun a => by kernel_rfl
theorem ok_spec_RecText : Tells ctx PP 59 cv27 cv17 (fun a => spec_RecText a) := fn_ok0 (hl_cons h_spec_l01In (hl_cons h_spec_l01Var (hl_cons h_spec_ThingText hl_nil))) Tryd.func59 (e_spec_RecText spec_l01In spec_l01Var spec_ThingText)
noncomputable def H_spec_RecText {γ : Type} (F : SRec → Option (ByteArray × Bool)) : Hd ctx γ := hdl cv27.dec (fun a => F a) cv17.enc
theorem h_spec_RecText {γ : Type} : HdOk (γ := γ) PP 59 (H_spec_RecText spec_RecText) := hd_ok ok_spec_RecText
noncomputable def todo_spec_BookOk_0 : List Go.Item := [.code (cAt (bodyOf Tryd.f74) [1, 1, 0, 1, 0, 0, 0, 0]), .code (cAt (bodyOf Tryd.f74) [1, 1, 0, 1, 0, 0, 0, 1]), .code (cAt (bodyOf Tryd.f74) [1, 1, 0, 1, 0, 0, 1]), .inLoop (cAt (bodyOf Tryd.f74) [1, 1, 0, 1, 0, 0]), .inBlock 0, .code (cAt (bodyOf Tryd.f74) [1, 1, 1])]
inductive St_spec_BookOk where
  | c0 (i_3 : Int) (b_1 : SBook)
noncomputable def at_spec_BookOk : St_spec_BookOk → LI
  | .c0 i_3 b_1 => (todo_spec_BookOk_0, [(1, [.one (.ptr 64 0)]), (3, [.one (.int .i64 i_3)])], [(64, .var [.str b_1.fWord, .int .i64 b_1.fTries, .rsl 33 b_1.fThings, .int .i64 b_1.fLast, .str b_1.fChain, .int .i64 b_1.fCount])])
noncomputable def E_spec_BookOk (spec_l01In : Int → Int → Int → Option Bool) (spec_ThingOk : SThing → Option Bool) (k : St_spec_BookOk → Option Bool) (b_0 : SBook) : Option Bool :=
  bif ((b_0.fWord.size : Int) != 32) then
    some false
  else
    bif ((b_0.fChain.size : Int) != 32) then
      some false
    else
      (spec_l01In b_0.fTries (0 : Int) (3 : Int)).bind fun r0 =>
      bif (!r0) then
        some false
      else
        bif (decide ((b_0.fThings.length : Int) > 8)) then
          some false
        else
          (spec_l01In b_0.fLast (0 : Int) (1000 : Int)).bind fun r1 =>
          bif (!r1) then
            some false
          else
            (spec_l01In b_0.fCount (0 : Int) (10000 : Int)).bind fun r2 =>
            bif (!r2) then
              some false
            else
              k (.c0 (0 : Int) b_0)
noncomputable def B_spec_BookOk (spec_l01In : Int → Int → Int → Option Bool) (spec_ThingOk : SThing → Option Bool) (k : St_spec_BookOk → Option Bool) : St_spec_BookOk → Option Bool
  | .c0 i_3 b_1 =>
    bif (decide (i_3 < (b_1.fThings.length : Int))) then
      bif ((decide (0 ≤ i_3)) && (decide (i_3 < (b_1.fThings.length : Int)))) then
      (spec_ThingOk (b_1.fThings.getD i_3.toNat (⟨(0 : Int), (0 : Int), false, false, false, false, (⟨#[]⟩ : ByteArray), (0 : Int)⟩ : SThing))).bind fun r0 =>
      bif (!r0) then
        some false
      else
        bif ((decide (0 ≤ i_3)) && (decide (i_3 < (b_1.fThings.length : Int)))) then
        bif (decide ((b_1.fThings.getD i_3.toNat (⟨(0 : Int), (0 : Int), false, false, false, false, (⟨#[]⟩ : ByteArray), (0 : Int)⟩ : SThing)).fId > b_1.fLast)) then
          some false
        else
          bif (decide (i_3 > 0)) then
            bif ((decide (0 ≤ (w64 (i_3 - 1)))) && (decide ((w64 (i_3 - 1)) < (b_1.fThings.length : Int)))) then
            bif ((decide (0 ≤ i_3)) && (decide (i_3 < (b_1.fThings.length : Int)))) then
            bif (decide ((b_1.fThings.getD (w64 (i_3 - 1)).toNat (⟨(0 : Int), (0 : Int), false, false, false, false, (⟨#[]⟩ : ByteArray), (0 : Int)⟩ : SThing)).fId ≥ (b_1.fThings.getD i_3.toNat (⟨(0 : Int), (0 : Int), false, false, false, false, (⟨#[]⟩ : ByteArray), (0 : Int)⟩ : SThing)).fId)) then
              some false
            else
              k (.c0 (w64 (i_3 + 1)) b_1)
            else none
            else none
          else
            k (.c0 (w64 (i_3 + 1)) b_1)
        else none
      else none
    else
      some true
noncomputable def L_spec_BookOk : Nat → St_spec_BookOk → Option Bool
  | 0, _ => none
  | m + 1, s => B_spec_BookOk spec_l01In spec_ThingOk (L_spec_BookOk m) s
noncomputable def spec_BookOk (b_0 : SBook) : Option Bool := E_spec_BookOk spec_l01In spec_ThingOk (L_spec_BookOk gas) b_0
theorem e_spec_BookOk (spec_l01In : Int → Int → Int → Option Bool) (spec_ThingOk : SThing → Option Bool) : EntryIs ctx PP 74 [] [(60, H_spec_l01In spec_l01In), (127, H_spec_ThingOk spec_ThingOk)] cv42 cv3 at_spec_BookOk (fun k a => E_spec_BookOk spec_l01In spec_ThingOk k a) := fun stop a => by kernel_rfl
theorem b_spec_BookOk (spec_l01In : Int → Int → Int → Option Bool) (spec_ThingOk : SThing → Option Bool) : CutIs ctx PP 74 Tryd.f74 [] [(60, H_spec_l01In spec_l01In), (127, H_spec_ThingOk spec_ThingOk)] cv3 at_spec_BookOk (B_spec_BookOk spec_l01In spec_ThingOk) := fun stop s => by cases s <;> kernel_rfl
theorem i_spec_BookOk : ∀ s s', at_spec_BookOk s = at_spec_BookOk s' → s = s' := by
  intro s s' h
  cases s with
  | c0 v0 v1 => cases s' with
    | c0 w0 w1 => obtain ⟨_, _, _, _, _, _⟩ := v1; obtain ⟨_, _, _, _, _, _⟩ := w1; cases h; rfl
theorem ok_spec_BookOk : Tells ctx PP 74 cv42 cv3 (fun a => spec_BookOk a) := fn_ok (hl_cons h_spec_l01In (hl_cons h_spec_ThingOk hl_nil)) Tryd.func74 i_spec_BookOk (fun _ => rfl) (fun _ _ => rfl) (b_spec_BookOk spec_l01In spec_ThingOk) (e_spec_BookOk spec_l01In spec_ThingOk) gas
noncomputable def H_spec_BookOk {γ : Type} (F : SBook → Option Bool) : Hd ctx γ := hdl cv42.dec (fun a => F a) cv3.enc
theorem h_spec_BookOk {γ : Type} : HdOk (γ := γ) PP 74 (H_spec_BookOk spec_BookOk) := hd_ok ok_spec_BookOk
noncomputable def E_spec_l21Copy  (b_0 : SBook) : Option SBook :=
  bif (decide (((0 + b_0.fThings.length) * 48) ≤ 140737488355328)) then
  some (⟨b_0.fWord, b_0.fTries, ([] ++ b_0.fThings), b_0.fLast, b_0.fChain, b_0.fCount⟩ : SBook)
  else none
noncomputable def spec_l21Copy (b_0 : SBook) : Option SBook := E_spec_l21Copy  b_0
theorem e_spec_l21Copy  : EntryIs0 ctx PP 75 [] [] cv42 cv41 (fun a => E_spec_l21Copy  a) := fun a => by kernel_rfl
theorem ok_spec_l21Copy : Tells ctx PP 75 cv42 cv41 (fun a => spec_l21Copy a) := fn_ok0 hl_nil Tryd.func75 (e_spec_l21Copy )
noncomputable def H_spec_l21Copy {γ : Type} (F : SBook → Option SBook) : Hd ctx γ := hdl cv42.dec (fun a => F a) cv41.enc
theorem h_spec_l21Copy {γ : Type} : HdOk (γ := γ) PP 75 (H_spec_l21Copy spec_l21Copy) := hd_ok ok_spec_l21Copy
noncomputable def todo_spec_ThingOf_0 : List Go.Item := [.code (cAt (bodyOf Tryd.f69) [1, 0, 1, 0, 0, 0, 0]), .code (cAt (bodyOf Tryd.f69) [1, 0, 1, 0, 0, 0, 1]), .code (cAt (bodyOf Tryd.f69) [1, 0, 1, 0, 0, 1]), .inLoop (cAt (bodyOf Tryd.f69) [1, 0, 1, 0, 0]), .inBlock 0, .code (cAt (bodyOf Tryd.f69) [1, 1])]
inductive St_spec_ThingOf where
  | c0 (id_1 : Int) (i_6 : Int) (b_2 : SBook) (v_4 : SThing)
noncomputable def at_spec_ThingOf : St_spec_ThingOf → LI
  | .c0 id_1 i_6 b_2 v_4 => (todo_spec_ThingOf_0, [(1, [.one (.int .i64 id_1)]), (2, [.one (.ptr 128 0)]), (4, [.one (.ptr 256 0)]), (6, [.one (.int .i64 i_6)])], [(128, .var [.str b_2.fWord, .int .i64 b_2.fTries, .rsl 33 b_2.fThings, .int .i64 b_2.fLast, .str b_2.fChain, .int .i64 b_2.fCount]), (256, .var [.int .i64 v_4.fId, .int .i64 v_4.fKind, .bool v_4.fHidden, .bool v_4.fFixed, .bool v_4.fSigns, .bool v_4.fWraps, .str v_4.fValue, .int .i64 v_4.fNext])])
noncomputable def E_spec_ThingOf  (k : St_spec_ThingOf → Option (SThing × Bool)) (b_0 : SBook) (id_1 : Int) : Option (SThing × Bool) :=
  k (.c0 id_1 (0 : Int) b_0 (⟨(0 : Int), (0 : Int), false, false, false, false, (⟨#[]⟩ : ByteArray), (0 : Int)⟩ : SThing))
noncomputable def B_spec_ThingOf  (k : St_spec_ThingOf → Option (SThing × Bool)) : St_spec_ThingOf → Option (SThing × Bool)
  | .c0 id_1 i_6 b_2 v_4 =>
    bif (decide (i_6 < (b_2.fThings.length : Int))) then
      bif ((decide (0 ≤ i_6)) && (decide (i_6 < (b_2.fThings.length : Int)))) then
      bif ((b_2.fThings.getD i_6.toNat (⟨(0 : Int), (0 : Int), false, false, false, false, (⟨#[]⟩ : ByteArray), (0 : Int)⟩ : SThing)).fId == id_1) then
        bif ((decide (0 ≤ i_6)) && (decide (i_6 < (b_2.fThings.length : Int)))) then
        some ((b_2.fThings.getD i_6.toNat (⟨(0 : Int), (0 : Int), false, false, false, false, (⟨#[]⟩ : ByteArray), (0 : Int)⟩ : SThing)), true)
        else none
      else
        k (.c0 id_1 (w64 (i_6 + 1)) b_2 v_4)
      else none
    else
      some ((⟨(0 : Int), (0 : Int), false, false, false, false, (⟨#[]⟩ : ByteArray), (0 : Int)⟩ : SThing), false)
noncomputable def L_spec_ThingOf : Nat → St_spec_ThingOf → Option (SThing × Bool)
  | 0, _ => none
  | m + 1, s => B_spec_ThingOf  (L_spec_ThingOf m) s
noncomputable def spec_ThingOf (b_0 : SBook) (id_1 : Int) : Option (SThing × Bool) := E_spec_ThingOf  (L_spec_ThingOf gas) b_0 id_1
theorem e_spec_ThingOf  : EntryIs ctx PP 69 [] [] cv43 cv44 at_spec_ThingOf (fun k a => E_spec_ThingOf  k a.1 a.2) := fun stop a => by kernel_rfl
theorem b_spec_ThingOf  : CutIs ctx PP 69 Tryd.f69 [] [] cv44 at_spec_ThingOf (B_spec_ThingOf ) := fun stop s => by cases s <;> kernel_rfl
theorem i_spec_ThingOf : ∀ s s', at_spec_ThingOf s = at_spec_ThingOf s' → s = s' := by
  intro s s' h
  cases s with
  | c0 v0 v1 v2 v3 => cases s' with
    | c0 w0 w1 w2 w3 => obtain ⟨_, _, _, _, _, _⟩ := v2; obtain ⟨_, _, _, _, _, _⟩ := w2; obtain ⟨_, _, _, _, _, _, _, _⟩ := v3; obtain ⟨_, _, _, _, _, _, _, _⟩ := w3; cases h; rfl
theorem ok_spec_ThingOf : Tells ctx PP 69 cv43 cv44 (fun a => spec_ThingOf a.1 a.2) := fn_ok hl_nil Tryd.func69 i_spec_ThingOf (fun _ => rfl) (fun _ _ => rfl) (b_spec_ThingOf ) (e_spec_ThingOf ) gas
noncomputable def H_spec_ThingOf {γ : Type} (F : SBook → Int → Option (SThing × Bool)) : Hd ctx γ := hdl cv43.dec (fun a => F a.1 a.2) cv44.enc
theorem h_spec_ThingOf {γ : Type} : HdOk (γ := γ) PP 69 (H_spec_ThingOf spec_ThingOf) := hd_ok ok_spec_ThingOf
noncomputable def E_spec_l21Grown  (a_0 : SThing) (b_1 : SThing) : Option Bool :=
  bif (a_0.fKind == b_1.fKind) then
    bif ((ByteArray.toList a_0.fValue) == (ByteArray.toList b_1.fValue)) then
      bif (a_0.fSigns == b_1.fSigns) then
        bif (a_0.fWraps == b_1.fWraps) then
          bif (decide (a_0.fNext ≤ b_1.fNext)) then
            bif b_1.fHidden then
              bif b_1.fFixed then
                some true
              else
                some (!a_0.fFixed)
            else
              bif (!a_0.fHidden) then
                bif b_1.fFixed then
                  some true
                else
                  some (!a_0.fFixed)
              else
                some false
          else
            some false
        else
          some false
      else
        some false
    else
      some false
  else
    some false
noncomputable def spec_l21Grown (a_0 : SThing) (b_1 : SThing) : Option Bool := E_spec_l21Grown  a_0 b_1
theorem e_spec_l21Grown  : EntryIs0 ctx PP 76 [] [] cv45 cv3 (fun a => E_spec_l21Grown  a.1 a.2) := fun a => by kernel_rfl
theorem ok_spec_l21Grown : Tells ctx PP 76 cv45 cv3 (fun a => spec_l21Grown a.1 a.2) := fn_ok0 hl_nil Tryd.func76 (e_spec_l21Grown )
noncomputable def H_spec_l21Grown {γ : Type} (F : SThing → SThing → Option Bool) : Hd ctx γ := hdl cv45.dec (fun a => F a.1 a.2) cv3.enc
theorem h_spec_l21Grown {γ : Type} : HdOk (γ := γ) PP 76 (H_spec_l21Grown spec_l21Grown) := hd_ok ok_spec_l21Grown
noncomputable def todo_spec_l21Put_0 : List Go.Item := [.code (cAt (bodyOf Tryd.f77) [1, 1, 0, 1, 0, 0, 0, 0]), .code (cAt (bodyOf Tryd.f77) [1, 1, 0, 1, 0, 0, 0, 1]), .code (cAt (bodyOf Tryd.f77) [1, 1, 0, 1, 0, 0, 1]), .inLoop (cAt (bodyOf Tryd.f77) [1, 1, 0, 1, 0, 0]), .inBlock 0, .code (cAt (bodyOf Tryd.f77) [1, 1, 1])]
noncomputable def todo_spec_l21Put_1 : List Go.Item := [.code (cAt (bodyOf Tryd.f77) [1, 1, 1, 1, 0, 1, 0, 0, 0, 0]), .code (cAt (bodyOf Tryd.f77) [1, 1, 1, 1, 0, 1, 0, 0, 0, 1]), .code (cAt (bodyOf Tryd.f77) [1, 1, 1, 1, 0, 1, 0, 0, 1]), .inLoop (cAt (bodyOf Tryd.f77) [1, 1, 1, 1, 0, 1, 0, 0]), .inBlock 2, .code (cAt (bodyOf Tryd.f77) [1, 1, 1, 1, 1])]
inductive St_spec_l21Put where
  | c0 (list_0 : (List SThing)) (i_6 : Int) (x_3 : SThing) (out_5 : (List SThing))
  | c1 (list_0 : (List SThing)) (i_7 : Int) (x_3 : SThing) (out_5 : (List SThing))
noncomputable def at_spec_l21Put : St_spec_l21Put → LI
  | .c0 list_0 i_6 x_3 out_5 => (todo_spec_l21Put_0, [(0, [.one (.rsl 33 list_0)]), (3, [.one (.ptr 192 0)]), (5, [.one (.own 368)]), (6, [.one (.int .i64 i_6)])], [(192, .var [.int .i64 x_3.fId, .int .i64 x_3.fKind, .bool x_3.fHidden, .bool x_3.fFixed, .bool x_3.fSigns, .bool x_3.fWraps, .str x_3.fValue, .int .i64 x_3.fNext]), (368, .sl 33 out_5)])
  | .c1 list_0 i_7 x_3 out_5 => (todo_spec_l21Put_1, [(0, [.one (.rsl 33 list_0)]), (3, [.one (.ptr 192 0)]), (5, [.one (.own 368)]), (7, [.one (.int .i64 i_7)])], [(192, .var [.int .i64 x_3.fId, .int .i64 x_3.fKind, .bool x_3.fHidden, .bool x_3.fFixed, .bool x_3.fSigns, .bool x_3.fWraps, .str x_3.fValue, .int .i64 x_3.fNext]), (368, .sl 33 out_5)])
noncomputable def E_spec_l21Put  (k : St_spec_l21Put → Option (List SThing)) (list_0 : (List SThing)) (x_1 : SThing) : Option (List SThing) :=
  k (.c0 list_0 (0 : Int) x_1 [])
noncomputable def B_spec_l21Put  (k : St_spec_l21Put → Option (List SThing)) : St_spec_l21Put → Option (List SThing)
  | .c0 list_0 i_6 x_3 out_5 =>
    bif (decide (i_6 < (list_0.length : Int))) then
      bif ((decide (0 ≤ i_6)) && (decide (i_6 < (list_0.length : Int)))) then
      bif (decide ((list_0.getD i_6.toNat (⟨(0 : Int), (0 : Int), false, false, false, false, (⟨#[]⟩ : ByteArray), (0 : Int)⟩ : SThing)).fId < x_3.fId)) then
        bif ((decide (0 ≤ i_6)) && (decide (i_6 < (list_0.length : Int)))) then
        bif (decide (((out_5.length + 1) * 48) ≤ 140737488355328)) then
        k (.c0 list_0 (w64 (i_6 + 1)) x_3 (out_5 ++ [(list_0.getD i_6.toNat (⟨(0 : Int), (0 : Int), false, false, false, false, (⟨#[]⟩ : ByteArray), (0 : Int)⟩ : SThing))]))
        else none
        else none
      else
        k (.c0 list_0 (w64 (i_6 + 1)) x_3 out_5)
      else none
    else
      bif (decide (((out_5.length + 1) * 48) ≤ 140737488355328)) then
      k (.c1 list_0 (0 : Int) x_3 (out_5 ++ [x_3]))
      else none
  | .c1 list_0 i_7 x_3 out_5 =>
    bif (decide (i_7 < (list_0.length : Int))) then
      bif ((decide (0 ≤ i_7)) && (decide (i_7 < (list_0.length : Int)))) then
      bif (decide ((list_0.getD i_7.toNat (⟨(0 : Int), (0 : Int), false, false, false, false, (⟨#[]⟩ : ByteArray), (0 : Int)⟩ : SThing)).fId > x_3.fId)) then
        bif ((decide (0 ≤ i_7)) && (decide (i_7 < (list_0.length : Int)))) then
        bif (decide (((out_5.length + 1) * 48) ≤ 140737488355328)) then
        k (.c1 list_0 (w64 (i_7 + 1)) x_3 (out_5 ++ [(list_0.getD i_7.toNat (⟨(0 : Int), (0 : Int), false, false, false, false, (⟨#[]⟩ : ByteArray), (0 : Int)⟩ : SThing))]))
        else none
        else none
      else
        k (.c1 list_0 (w64 (i_7 + 1)) x_3 out_5)
      else none
    else
      some out_5
noncomputable def L_spec_l21Put : Nat → St_spec_l21Put → Option (List SThing)
  | 0, _ => none
  | m + 1, s => B_spec_l21Put  (L_spec_l21Put m) s
noncomputable def spec_l21Put (list_0 : (List SThing)) (x_1 : SThing) : Option (List SThing) := E_spec_l21Put  (L_spec_l21Put gas) list_0 x_1
theorem e_spec_l21Put  : EntryIs ctx PP 77 [] [] cv46 cv47 at_spec_l21Put (fun k a => E_spec_l21Put  k a.1 a.2) := fun stop a => by kernel_rfl
theorem b_spec_l21Put  : CutIs ctx PP 77 Tryd.f77 [] [] cv47 at_spec_l21Put (B_spec_l21Put ) := fun stop s => by cases s <;> kernel_rfl
theorem i_spec_l21Put : ∀ s s', at_spec_l21Put s = at_spec_l21Put s' → s = s' := by
  intro s s' h
  cases s with
  | c0 v0 v1 v2 v3 => cases s' with
    | c0 w0 w1 w2 w3 => obtain ⟨_, _, _, _, _, _, _, _⟩ := v2; obtain ⟨_, _, _, _, _, _, _, _⟩ := w2; cases h; rfl
    | c1 w0 w1 w2 w3 => exact (region_ne 3 9 h (by kernel_rfl) (by kernel_rfl) rfl).elim
  | c1 v0 v1 v2 v3 => cases s' with
    | c0 w0 w1 w2 w3 => exact (region_ne 9 3 h (by kernel_rfl) (by kernel_rfl) rfl).elim
    | c1 w0 w1 w2 w3 => obtain ⟨_, _, _, _, _, _, _, _⟩ := v2; obtain ⟨_, _, _, _, _, _, _, _⟩ := w2; cases h; rfl
theorem ok_spec_l21Put : Tells ctx PP 77 cv46 cv47 (fun a => spec_l21Put a.1 a.2) := fn_ok hl_nil Tryd.func77 i_spec_l21Put (fun _ => rfl) (fun _ _ => rfl) (b_spec_l21Put ) (e_spec_l21Put ) gas
noncomputable def H_spec_l21Put {γ : Type} (F : (List SThing) → SThing → Option (List SThing)) : Hd ctx γ := hdl cv46.dec (fun a => F a.1 a.2) cv47.enc
theorem h_spec_l21Put {γ : Type} : HdOk (γ := γ) PP 77 (H_spec_l21Put spec_l21Put) := hd_ok ok_spec_l21Put
noncomputable def E_spec_l05First   : Option (List Int) :=
  some [(1779033703 : Int), (3144134277 : Int), (1013904242 : Int), (2773480762 : Int), (1359893119 : Int), (2600822924 : Int), (528734635 : Int), (1541459225 : Int)]
noncomputable def spec_l05First  : Option (List Int) := E_spec_l05First  
theorem e_spec_l05First  : EntryIs0 ctx PP 166 [] [] cv4 cv5 (fun _ => E_spec_l05First  ) := fun a => by kernel_rfl
theorem ok_spec_l05First : Tells ctx PP 166 cv4 cv5 (fun _ => spec_l05First ) := fn_ok0 hl_nil Tryd.func166 (e_spec_l05First )
noncomputable def H_spec_l05First {γ : Type} (F : Option (List Int)) : Hd ctx γ := hdl cv4.dec (fun _ => F ) cv5.enc
theorem h_spec_l05First {γ : Type} : HdOk (γ := γ) PP 166 (H_spec_l05First spec_l05First) := hd_ok ok_spec_l05First
noncomputable def todo_spec_l05Bytes_0 : List Go.Item := [.code (cAt (bodyOf Tryd.f165) [1, 1, 0, 1, 0, 0, 0, 0]), .code (cAt (bodyOf Tryd.f165) [1, 1, 0, 1, 0, 0, 0, 1]), .code (cAt (bodyOf Tryd.f165) [1, 1, 0, 1, 0, 0, 1]), .inLoop (cAt (bodyOf Tryd.f165) [1, 1, 0, 1, 0, 0]), .inBlock 0, .code (cAt (bodyOf Tryd.f165) [1, 1, 1])]
inductive St_spec_l05Bytes where
  | c0 (words_0 : (List Int)) (i_4 : Int) (out_3 : (List Int))
noncomputable def at_spec_l05Bytes : St_spec_l05Bytes → LI
  | .c0 words_0 i_4 out_3 => (todo_spec_l05Bytes_0, [(0, [.one (.rsl 138 words_0)]), (3, [.one (.own 240)]), (4, [.one (.int .i64 i_4)])], [(240, .sl 5 out_3)])
noncomputable def E_spec_l05Bytes  (k : St_spec_l05Bytes → Option ByteArray) (words_0 : (List Int)) : Option ByteArray :=
  k (.c0 words_0 (0 : Int) [])
noncomputable def B_spec_l05Bytes  (k : St_spec_l05Bytes → Option ByteArray) : St_spec_l05Bytes → Option ByteArray
  | .c0 words_0 i_4 out_3 =>
    bif (decide (i_4 < (words_0.length : Int))) then
      bif ((decide (0 ≤ i_4)) && (decide (i_4 < (words_0.length : Int)))) then
      bif (decide (((out_3.length + 4) * 1) ≤ 140737488355328)) then
      k (.c0 words_0 (w64 (i_4 + 1)) (out_3 ++ [(w8 (w32 ((words_0.getD i_4.toNat 0).tdiv 16777216))), (w8 ((w32 ((words_0.getD i_4.toNat 0).tdiv 65536)).tmod 256)), (w8 ((w32 ((words_0.getD i_4.toNat 0).tdiv 256)).tmod 256)), (w8 ((words_0.getD i_4.toNat 0).tmod 256))]))
      else none
      else none
    else
      some (ofBytes out_3)
noncomputable def L_spec_l05Bytes : Nat → St_spec_l05Bytes → Option ByteArray
  | 0, _ => none
  | m + 1, s => B_spec_l05Bytes  (L_spec_l05Bytes m) s
noncomputable def spec_l05Bytes (words_0 : (List Int)) : Option ByteArray := E_spec_l05Bytes  (L_spec_l05Bytes gas) words_0
theorem e_spec_l05Bytes  : EntryIs ctx PP 165 [] [] cv6 cv1 at_spec_l05Bytes (fun k a => E_spec_l05Bytes  k a) := fun stop a => by kernel_rfl
theorem b_spec_l05Bytes  : CutIs ctx PP 165 Tryd.f165 [] [] cv1 at_spec_l05Bytes (B_spec_l05Bytes ) := fun stop s => by cases s <;> kernel_rfl
theorem i_spec_l05Bytes : ∀ s s', at_spec_l05Bytes s = at_spec_l05Bytes s' → s = s' := by
  intro s s' h
  cases s with
  | c0 v0 v1 v2 => cases s' with
    | c0 w0 w1 w2 => cases h; rfl
theorem ok_spec_l05Bytes : Tells ctx PP 165 cv6 cv1 (fun a => spec_l05Bytes a) := fn_ok hl_nil Tryd.func165 i_spec_l05Bytes (fun _ => rfl) (fun _ _ => rfl) (b_spec_l05Bytes ) (e_spec_l05Bytes ) gas
noncomputable def H_spec_l05Bytes {γ : Type} (F : (List Int) → Option ByteArray) : Hd ctx γ := hdl cv6.dec (fun a => F a) cv1.enc
theorem h_spec_l05Bytes {γ : Type} : HdOk (γ := γ) PP 165 (H_spec_l05Bytes spec_l05Bytes) := hd_ok ok_spec_l05Bytes
noncomputable def E_spec_HasherNew (spec_l05First : Option (List Int)) (spec_l05Bytes : (List Int) → Option ByteArray)  : Option SHasher :=
  spec_l05First.bind fun r0 =>
  (spec_l05Bytes r0).bind fun r1 =>
  some (⟨r1, (⟨#[]⟩ : ByteArray), (0 : Int)⟩ : SHasher)
noncomputable def spec_HasherNew  : Option SHasher := E_spec_HasherNew spec_l05First spec_l05Bytes 
theorem e_spec_HasherNew (spec_l05First : Option (List Int)) (spec_l05Bytes : (List Int) → Option ByteArray) : EntryIs0 ctx PP 130 [] [(166, H_spec_l05First spec_l05First), (165, H_spec_l05Bytes spec_l05Bytes)] cv4 cv7 (fun _ => E_spec_HasherNew spec_l05First spec_l05Bytes ) := fun a => by kernel_rfl
theorem ok_spec_HasherNew : Tells ctx PP 130 cv4 cv7 (fun _ => spec_HasherNew ) := fn_ok0 (hl_cons h_spec_l05First (hl_cons h_spec_l05Bytes hl_nil)) Tryd.func130 (e_spec_HasherNew spec_l05First spec_l05Bytes)
noncomputable def H_spec_HasherNew {γ : Type} (F : Option SHasher) : Hd ctx γ := hdl cv4.dec (fun _ => F ) cv7.enc
theorem h_spec_HasherNew {γ : Type} : HdOk (γ := γ) PP 130 (H_spec_HasherNew spec_HasherNew) := hd_ok ok_spec_HasherNew
noncomputable def E_spec_HasherOk (spec_l01In : Int → Int → Int → Option Bool) (h_0 : SHasher) : Option Bool :=
  bif ((h_0.fState.size : Int) == 32) then
    bif (decide ((h_0.fRest.size : Int) < 64)) then
      (spec_l01In h_0.fCount (0 : Int) (1000000000 : Int)).bind fun r0 =>
      bif r0 then
        some ((h_0.fCount.tmod 64) == (h_0.fRest.size : Int))
      else
        some false
    else
      some false
  else
    some false
noncomputable def spec_HasherOk (h_0 : SHasher) : Option Bool := E_spec_HasherOk spec_l01In h_0
theorem e_spec_HasherOk (spec_l01In : Int → Int → Int → Option Bool) : EntryIs0 ctx PP 161 [] [(60, H_spec_l01In spec_l01In)] cv7 cv3 (fun a => E_spec_HasherOk spec_l01In a) := fun a => by kernel_rfl
theorem ok_spec_HasherOk : Tells ctx PP 161 cv7 cv3 (fun a => spec_HasherOk a) := fn_ok0 (hl_cons h_spec_l01In hl_nil) Tryd.func161 (e_spec_HasherOk spec_l01In)
noncomputable def H_spec_HasherOk {γ : Type} (F : SHasher → Option Bool) : Hd ctx γ := hdl cv7.dec (fun a => F a) cv3.enc
theorem h_spec_HasherOk {γ : Type} : HdOk (γ := γ) PP 161 (H_spec_HasherOk spec_HasherOk) := hd_ok ok_spec_HasherOk
noncomputable def E_spec_l05Word  (s_0 : ByteArray) (at_1 : Int) : Option Int :=
  bif ((decide (0 ≤ at_1)) && (decide (at_1 < (s_0.size : Int)))) then
  bif ((decide (0 ≤ (w64 (at_1 + 1)))) && (decide ((w64 (at_1 + 1)) < (s_0.size : Int)))) then
  bif ((decide (0 ≤ (w64 (at_1 + 2)))) && (decide ((w64 (at_1 + 2)) < (s_0.size : Int)))) then
  bif ((decide (0 ≤ (w64 (at_1 + 3)))) && (decide ((w64 (at_1 + 3)) < (s_0.size : Int)))) then
  some (w32 ((w32 ((w32 ((w32 ((w32 (bt s_0 at_1)) * 16777216)) + (w32 ((w32 (bt s_0 (w64 (at_1 + 1)))) * 65536)))) + (w32 ((w32 (bt s_0 (w64 (at_1 + 2)))) * 256)))) + (w32 (bt s_0 (w64 (at_1 + 3))))))
  else none
  else none
  else none
  else none
noncomputable def spec_l05Word (s_0 : ByteArray) (at_1 : Int) : Option Int := E_spec_l05Word  s_0 at_1
theorem e_spec_l05Word  : EntryIs0 ctx PP 177 [] [] cv8 cv9 (fun a => E_spec_l05Word  a.1 a.2) := fun a => by kernel_rfl
theorem ok_spec_l05Word : Tells ctx PP 177 cv8 cv9 (fun a => spec_l05Word a.1 a.2) := fn_ok0 hl_nil Tryd.func177 (e_spec_l05Word )
noncomputable def H_spec_l05Word {γ : Type} (F : ByteArray → Int → Option Int) : Hd ctx γ := hdl cv8.dec (fun a => F a.1 a.2) cv9.enc
theorem h_spec_l05Word {γ : Type} : HdOk (γ := γ) PP 177 (H_spec_l05Word spec_l05Word) := hd_ok ok_spec_l05Word
noncomputable def todo_spec_l05Words_0 : List Go.Item := [.code (cAt (bodyOf Tryd.f162) [1, 1, 0, 1, 0, 0, 0, 0]), .code (cAt (bodyOf Tryd.f162) [1, 1, 0, 1, 0, 0, 0, 1]), .code (cAt (bodyOf Tryd.f162) [1, 1, 0, 1, 0, 0, 1]), .inLoop (cAt (bodyOf Tryd.f162) [1, 1, 0, 1, 0, 0]), .inBlock 0, .code (cAt (bodyOf Tryd.f162) [1, 1, 1])]
inductive St_spec_l05Words where
  | c0 (s_0 : ByteArray) (i_4 : Int) (out_3 : (List Int))
noncomputable def at_spec_l05Words : St_spec_l05Words → LI
  | .c0 s_0 i_4 out_3 => (todo_spec_l05Words_0, [(0, [.one (.str s_0)]), (3, [.one (.own 240)]), (4, [.one (.int .i64 i_4)])], [(240, .sl 138 out_3)])
noncomputable def E_spec_l05Words (spec_l05Word : ByteArray → Int → Option Int) (k : St_spec_l05Words → Option (List Int)) (s_0 : ByteArray) : Option (List Int) :=
  k (.c0 s_0 (0 : Int) [])
noncomputable def B_spec_l05Words (spec_l05Word : ByteArray → Int → Option Int) (k : St_spec_l05Words → Option (List Int)) : St_spec_l05Words → Option (List Int)
  | .c0 s_0 i_4 out_3 =>
    bif (decide ((w64 (i_4 + 4)) ≤ (s_0.size : Int))) then
      (spec_l05Word s_0 i_4).bind fun r0 =>
      bif (decide (((out_3.length + 1) * 4) ≤ 140737488355328)) then
      k (.c0 s_0 (w64 (i_4 + 4)) (out_3 ++ [r0]))
      else none
    else
      some out_3
noncomputable def L_spec_l05Words : Nat → St_spec_l05Words → Option (List Int)
  | 0, _ => none
  | m + 1, s => B_spec_l05Words spec_l05Word (L_spec_l05Words m) s
noncomputable def spec_l05Words (s_0 : ByteArray) : Option (List Int) := E_spec_l05Words spec_l05Word (L_spec_l05Words gas) s_0
theorem e_spec_l05Words (spec_l05Word : ByteArray → Int → Option Int) : EntryIs ctx PP 162 [] [(177, H_spec_l05Word spec_l05Word)] cv1 cv5 at_spec_l05Words (fun k a => E_spec_l05Words spec_l05Word k a) := fun stop a => by kernel_rfl
theorem b_spec_l05Words (spec_l05Word : ByteArray → Int → Option Int) : CutIs ctx PP 162 Tryd.f162 [] [(177, H_spec_l05Word spec_l05Word)] cv5 at_spec_l05Words (B_spec_l05Words spec_l05Word) := fun stop s => by cases s <;> kernel_rfl
theorem i_spec_l05Words : ∀ s s', at_spec_l05Words s = at_spec_l05Words s' → s = s' := by
  intro s s' h
  cases s with
  | c0 v0 v1 v2 => cases s' with
    | c0 w0 w1 w2 => cases h; rfl
theorem ok_spec_l05Words : Tells ctx PP 162 cv1 cv5 (fun a => spec_l05Words a) := fn_ok (hl_cons h_spec_l05Word hl_nil) Tryd.func162 i_spec_l05Words (fun _ => rfl) (fun _ _ => rfl) (b_spec_l05Words spec_l05Word) (e_spec_l05Words spec_l05Word) gas
noncomputable def H_spec_l05Words {γ : Type} (F : ByteArray → Option (List Int)) : Hd ctx γ := hdl cv1.dec (fun a => F a) cv5.enc
theorem h_spec_l05Words {γ : Type} : HdOk (γ := γ) PP 162 (H_spec_l05Words spec_l05Words) := hd_ok ok_spec_l05Words
noncomputable def E_spec_l05K   : Option (List Int) :=
  some [(1116352408 : Int), (1899447441 : Int), (3049323471 : Int), (3921009573 : Int), (961987163 : Int), (1508970993 : Int), (2453635748 : Int), (2870763221 : Int), (3624381080 : Int), (310598401 : Int), (607225278 : Int), (1426881987 : Int), (1925078388 : Int), (2162078206 : Int), (2614888103 : Int), (3248222580 : Int), (3835390401 : Int), (4022224774 : Int), (264347078 : Int), (604807628 : Int), (770255983 : Int), (1249150122 : Int), (1555081692 : Int), (1996064986 : Int), (2554220882 : Int), (2821834349 : Int), (2952996808 : Int), (3210313671 : Int), (3336571891 : Int), (3584528711 : Int), (113926993 : Int), (338241895 : Int), (666307205 : Int), (773529912 : Int), (1294757372 : Int), (1396182291 : Int), (1695183700 : Int), (1986661051 : Int), (2177026350 : Int), (2456956037 : Int), (2730485921 : Int), (2820302411 : Int), (3259730800 : Int), (3345764771 : Int), (3516065817 : Int), (3600352804 : Int), (4094571909 : Int), (275423344 : Int), (430227734 : Int), (506948616 : Int), (659060556 : Int), (883997877 : Int), (958139571 : Int), (1322822218 : Int), (1537002063 : Int), (1747873779 : Int), (1955562222 : Int), (2024104815 : Int), (2227730452 : Int), (2361852424 : Int), (2428436474 : Int), (2756734187 : Int), (3204031479 : Int), (3329325298 : Int)]
noncomputable def spec_l05K  : Option (List Int) := E_spec_l05K  
theorem e_spec_l05K  : EntryIs0 ctx PP 163 [] [] cv4 cv5 (fun _ => E_spec_l05K  ) := fun a => by kernel_rfl
theorem ok_spec_l05K : Tells ctx PP 163 cv4 cv5 (fun _ => spec_l05K ) := fn_ok0 hl_nil Tryd.func163 (e_spec_l05K )
noncomputable def H_spec_l05K {γ : Type} (F : Option (List Int)) : Hd ctx γ := hdl cv4.dec (fun _ => F ) cv5.enc
theorem h_spec_l05K {γ : Type} : HdOk (γ := γ) PP 163 (H_spec_l05K spec_l05K) := hd_ok ok_spec_l05K
noncomputable def E_spec_l05Right  (x_0 : Int) (low_1 : Int) (high_2 : Int) : Option Int :=
  bif (!(low_1 == 0)) then
  bif (!(low_1 == 0)) then
  some (w32 ((w32 (x_0.tdiv low_1)) + (w32 ((x_0.tmod low_1) * high_2))))
  else none
  else none
noncomputable def spec_l05Right (x_0 : Int) (low_1 : Int) (high_2 : Int) : Option Int := E_spec_l05Right  x_0 low_1 high_2
theorem e_spec_l05Right  : EntryIs0 ctx PP 181 [] [] cv10 cv9 (fun a => E_spec_l05Right  a.1 a.2.1 a.2.2) := fun a => by kernel_rfl
theorem ok_spec_l05Right : Tells ctx PP 181 cv10 cv9 (fun a => spec_l05Right a.1 a.2.1 a.2.2) := fn_ok0 hl_nil Tryd.func181 (e_spec_l05Right )
noncomputable def H_spec_l05Right {γ : Type} (F : Int → Int → Int → Option Int) : Hd ctx γ := hdl cv10.dec (fun a => F a.1 a.2.1 a.2.2) cv9.enc
theorem h_spec_l05Right {γ : Type} : HdOk (γ := γ) PP 181 (H_spec_l05Right spec_l05Right) := hd_ok ok_spec_l05Right
noncomputable def E_spec_l05S (spec_l05Right : Int → Int → Int → Option Int) (x_0 : Int) (a_1 : Int) (b_2 : Int) (c_3 : Int) (last_4 : Bool) : Option Int :=
  bif (!(a_1 == 0)) then
  (spec_l05Right x_0 a_1 (w32 ((w32 ((2147483648 : Int).tdiv a_1)) * 2))).bind fun r0 =>
  bif (!(b_2 == 0)) then
  (spec_l05Right x_0 b_2 (w32 ((w32 ((2147483648 : Int).tdiv b_2)) * 2))).bind fun r1 =>
  bif (!(c_3 == 0)) then
  bif (!last_4) then
    bif (!(c_3 == 0)) then
    (spec_l05Right x_0 c_3 (w32 ((w32 ((2147483648 : Int).tdiv c_3)) * 2))).bind fun r2 =>
    some (w32 (((BitVec.toNat ((BitVec.ofInt (IntKind.bits IntKind.u32) (w32 (((BitVec.toNat ((BitVec.ofInt (IntKind.bits IntKind.u32) r0) ^^^ (BitVec.ofInt (IntKind.bits IntKind.u32) r1))) : Nat) : Int))) ^^^ (BitVec.ofInt (IntKind.bits IntKind.u32) r2))) : Nat) : Int))
    else none
  else
    some (w32 (((BitVec.toNat ((BitVec.ofInt (IntKind.bits IntKind.u32) (w32 (((BitVec.toNat ((BitVec.ofInt (IntKind.bits IntKind.u32) r0) ^^^ (BitVec.ofInt (IntKind.bits IntKind.u32) r1))) : Nat) : Int))) ^^^ (BitVec.ofInt (IntKind.bits IntKind.u32) (w32 (x_0.tdiv c_3))))) : Nat) : Int))
  else none
  else none
  else none
noncomputable def spec_l05S (x_0 : Int) (a_1 : Int) (b_2 : Int) (c_3 : Int) (last_4 : Bool) : Option Int := E_spec_l05S spec_l05Right x_0 a_1 b_2 c_3 last_4
theorem e_spec_l05S (spec_l05Right : Int → Int → Int → Option Int) : EntryIs0 ctx PP 178 [] [(181, H_spec_l05Right spec_l05Right)] cv11 cv9 (fun a => E_spec_l05S spec_l05Right a.1 a.2.1 a.2.2.1 a.2.2.2.1 a.2.2.2.2) := fun a => by kernel_rfl
theorem ok_spec_l05S : Tells ctx PP 178 cv11 cv9 (fun a => spec_l05S a.1 a.2.1 a.2.2.1 a.2.2.2.1 a.2.2.2.2) := fn_ok0 (hl_cons h_spec_l05Right hl_nil) Tryd.func178 (e_spec_l05S spec_l05Right)
noncomputable def H_spec_l05S {γ : Type} (F : Int → Int → Int → Int → Bool → Option Int) : Hd ctx γ := hdl cv11.dec (fun a => F a.1 a.2.1 a.2.2.1 a.2.2.2.1 a.2.2.2.2) cv9.enc
theorem h_spec_l05S {γ : Type} : HdOk (γ := γ) PP 178 (H_spec_l05S spec_l05S) := hd_ok ok_spec_l05S
noncomputable def todo_spec_l05Round_0 : List Go.Item := [.code (cAt (bodyOf Tryd.f164) [1, 1, 0, 1, 0, 0, 0, 0]), .code (cAt (bodyOf Tryd.f164) [1, 1, 0, 1, 0, 0, 0, 1]), .code (cAt (bodyOf Tryd.f164) [1, 1, 0, 1, 0, 0, 1]), .inLoop (cAt (bodyOf Tryd.f164) [1, 1, 0, 1, 0, 0]), .inBlock 0, .code (cAt (bodyOf Tryd.f164) [1, 1, 1])]
noncomputable def todo_spec_l05Round_1 : List Go.Item := [.code (cAt (bodyOf Tryd.f164) [1, 1, 1, 1, 0, 1, 0, 0, 0, 0]), .code (cAt (bodyOf Tryd.f164) [1, 1, 1, 1, 0, 1, 0, 0, 0, 1]), .code (cAt (bodyOf Tryd.f164) [1, 1, 1, 1, 0, 1, 0, 0, 1]), .inLoop (cAt (bodyOf Tryd.f164) [1, 1, 1, 1, 0, 1, 0, 0]), .inBlock 2, .code (cAt (bodyOf Tryd.f164) [1, 1, 1, 1, 1])]
noncomputable def todo_spec_l05Round_2 : List Go.Item := [.code (cAt (bodyOf Tryd.f164) [1, 1, 1, 1, 0, 1, 0, 0, 1, 0, 0, 1, 1, 1, 1, 1, 0, 1, 0, 0, 0, 0]), .code (cAt (bodyOf Tryd.f164) [1, 1, 1, 1, 0, 1, 0, 0, 1, 0, 0, 1, 1, 1, 1, 1, 0, 1, 0, 0, 0, 1]), .code (cAt (bodyOf Tryd.f164) [1, 1, 1, 1, 0, 1, 0, 0, 1, 0, 0, 1, 1, 1, 1, 1, 0, 1, 0, 0, 1]), .inLoop (cAt (bodyOf Tryd.f164) [1, 1, 1, 1, 0, 1, 0, 0, 1, 0, 0, 1, 1, 1, 1, 1, 0, 1, 0, 0]), .inBlock 4, .code (cAt (bodyOf Tryd.f164) [1, 1, 1, 1, 0, 1, 0, 0, 1, 0, 0, 1, 1, 1, 1, 1, 1]), .inBlock 3, .code (cAt (bodyOf Tryd.f164) [1, 1, 1, 1, 0, 1, 0, 0, 1, 1]), .inLoop (cAt (bodyOf Tryd.f164) [1, 1, 1, 1, 0, 1, 0, 0]), .inBlock 2, .code (cAt (bodyOf Tryd.f164) [1, 1, 1, 1, 1])]
noncomputable def todo_spec_l05Round_3 : List Go.Item := [.code (cAt (bodyOf Tryd.f164) [1, 1, 1, 1, 1, 1, 0, 1, 0, 0, 0, 0]), .code (cAt (bodyOf Tryd.f164) [1, 1, 1, 1, 1, 1, 0, 1, 0, 0, 0, 1]), .code (cAt (bodyOf Tryd.f164) [1, 1, 1, 1, 1, 1, 0, 1, 0, 0, 1]), .inLoop (cAt (bodyOf Tryd.f164) [1, 1, 1, 1, 1, 1, 0, 1, 0, 0]), .inBlock 6, .code (cAt (bodyOf Tryd.f164) [1, 1, 1, 1, 1, 1, 1])]
inductive St_spec_l05Round where
  | c0 (t_0 : (List Int)) (o_1 : (List Int)) (v_8 : Int) (v_7 : (List Int))
  | c1 (t_0 : (List Int)) (o_1 : (List Int)) (v_10 : Int) (v_7 : (List Int)) (v_9 : (List Int))
  | c2 (t_0 : (List Int)) (o_1 : (List Int)) (v_10 : Int) (v_13 : Int) (v_15 : Int) (v_16 : Int) (v_7 : (List Int)) (v_9 : (List Int))
  | c3 (t_0 : (List Int)) (v_18 : Int) (v_9 : (List Int)) (v_17 : (List Int))
noncomputable def at_spec_l05Round : St_spec_l05Round → LI
  | .c0 t_0 o_1 v_8 v_7 => (todo_spec_l05Round_0, [(0, [.one (.rsl 138 t_0)]), (1, [.one (.rsl 138 o_1)]), (7, [.one (.own 496)]), (8, [.one (.int .i64 v_8)])], [(496, .sl 138 v_7)])
  | .c1 t_0 o_1 v_10 v_7 v_9 => (todo_spec_l05Round_1, [(0, [.one (.rsl 138 t_0)]), (1, [.one (.rsl 138 o_1)]), (7, [.one (.own 496)]), (9, [.one (.own 624)]), (10, [.one (.int .i64 v_10)])], [(496, .sl 138 v_7), (624, .sl 138 v_9)])
  | .c2 t_0 o_1 v_10 v_13 v_15 v_16 v_7 v_9 => (todo_spec_l05Round_2, [(0, [.one (.rsl 138 t_0)]), (1, [.one (.rsl 138 o_1)]), (7, [.one (.own 496)]), (9, [.one (.own 624)]), (10, [.one (.int .i64 v_10)]), (13, [.one (.int .u32 v_13)]), (15, [.one (.int .u32 v_15)]), (16, [.one (.int .i64 v_16)])], [(496, .sl 138 v_7), (624, .sl 138 v_9)])
  | .c3 t_0 v_18 v_9 v_17 => (todo_spec_l05Round_3, [(0, [.one (.rsl 138 t_0)]), (9, [.one (.own 624)]), (17, [.one (.own 1136)]), (18, [.one (.int .i64 v_18)])], [(624, .sl 138 v_9), (1136, .sl 138 v_17)])
noncomputable def E_spec_l05Round (spec_l05Words : ByteArray → Option (List Int)) (spec_l05S : Int → Int → Int → Int → Bool → Option Int) (k : St_spec_l05Round → Option (List Int)) (t_0 : (List Int)) (o_1 : (List Int)) (A_2 : ByteArray) : Option (List Int) :=
  (spec_l05Words A_2).bind fun r0 =>
  k (.c0 t_0 o_1 (16 : Int) r0)
noncomputable def B_spec_l05Round (spec_l05Words : ByteArray → Option (List Int)) (spec_l05S : Int → Int → Int → Int → Bool → Option Int) (k : St_spec_l05Round → Option (List Int)) : St_spec_l05Round → Option (List Int)
  | .c0 t_0 o_1 v_8 v_7 =>
    bif (decide (v_8 < 64)) then
      bif ((decide (0 ≤ (w64 (v_8 - 2)))) && (decide ((w64 (v_8 - 2)) < (v_7.length : Int)))) then
      (spec_l05S (v_7.getD (w64 (v_8 - 2)).toNat 0) (131072 : Int) (524288 : Int) (1024 : Int) true).bind fun r0 =>
      bif ((decide (0 ≤ (w64 (v_8 - 7)))) && (decide ((w64 (v_8 - 7)) < (v_7.length : Int)))) then
      bif ((decide (0 ≤ (w64 (v_8 - 15)))) && (decide ((w64 (v_8 - 15)) < (v_7.length : Int)))) then
      (spec_l05S (v_7.getD (w64 (v_8 - 15)).toNat 0) (128 : Int) (262144 : Int) (8 : Int) true).bind fun r1 =>
      bif ((decide (0 ≤ (w64 (v_8 - 16)))) && (decide ((w64 (v_8 - 16)) < (v_7.length : Int)))) then
      bif (decide (((v_7.length + 1) * 4) ≤ 140737488355328)) then
      k (.c0 t_0 o_1 (w64 (v_8 + 1)) (v_7 ++ [(w32 ((w32 ((w32 (r0 + (v_7.getD (w64 (v_8 - 7)).toNat 0))) + r1)) + (v_7.getD (w64 (v_8 - 16)).toNat 0)))]))
      else none
      else none
      else none
      else none
      else none
    else
      bif (decide (((0 + t_0.length) * 4) ≤ 140737488355328)) then
      k (.c1 t_0 o_1 (0 : Int) v_7 ([] ++ t_0))
      else none
  | .c1 t_0 o_1 v_10 v_7 v_9 =>
    bif (decide (v_10 < 64)) then
      bif ((decide ((0 : Int) ≤ (4 : Int))) && (decide (4 < (v_9.length : Int)))) then
      bif ((decide ((0 : Int) ≤ (5 : Int))) && (decide (5 < (v_9.length : Int)))) then
      bif ((decide ((0 : Int) ≤ (6 : Int))) && (decide (6 < (v_9.length : Int)))) then
      bif ((decide ((0 : Int) ≤ (7 : Int))) && (decide (7 < (v_9.length : Int)))) then
      (spec_l05S (v_9.getD (4 : Int).toNat 0) (64 : Int) (2048 : Int) (33554432 : Int) false).bind fun r0 =>
      bif ((decide (0 ≤ v_10)) && (decide (v_10 < (o_1.length : Int)))) then
      bif ((decide (0 ≤ v_10)) && (decide (v_10 < (v_7.length : Int)))) then
      bif ((decide ((0 : Int) ≤ (0 : Int))) && (decide (0 < (v_9.length : Int)))) then
      bif ((decide ((0 : Int) ≤ (1 : Int))) && (decide (1 < (v_9.length : Int)))) then
      bif ((decide ((0 : Int) ≤ (0 : Int))) && (decide (0 < (v_9.length : Int)))) then
      bif ((decide ((0 : Int) ≤ (2 : Int))) && (decide (2 < (v_9.length : Int)))) then
      bif ((decide ((0 : Int) ≤ (1 : Int))) && (decide (1 < (v_9.length : Int)))) then
      bif ((decide ((0 : Int) ≤ (2 : Int))) && (decide (2 < (v_9.length : Int)))) then
      bif ((decide ((0 : Int) ≤ (0 : Int))) && (decide (0 < (v_9.length : Int)))) then
      (spec_l05S (v_9.getD (0 : Int).toNat 0) (4 : Int) (8192 : Int) (4194304 : Int) false).bind fun r1 =>
      k (.c2 t_0 o_1 v_10 (w32 ((w32 ((w32 ((w32 ((v_9.getD (7 : Int).toNat 0) + r0)) + (w32 (((BitVec.toNat ((BitVec.ofInt (IntKind.bits IntKind.u32) (w32 (((BitVec.toNat ((BitVec.ofInt (IntKind.bits IntKind.u32) (v_9.getD (4 : Int).toNat 0)) &&& (BitVec.ofInt (IntKind.bits IntKind.u32) (v_9.getD (5 : Int).toNat 0)))) : Nat) : Int))) ^^^ (BitVec.ofInt (IntKind.bits IntKind.u32) (w32 (((BitVec.toNat ((BitVec.ofInt (IntKind.bits IntKind.u32) (w32 (4294967295 - (v_9.getD (4 : Int).toNat 0)))) &&& (BitVec.ofInt (IntKind.bits IntKind.u32) (v_9.getD (6 : Int).toNat 0)))) : Nat) : Int))))) : Nat) : Int)))) + (o_1.getD v_10.toNat 0))) + (v_7.getD v_10.toNat 0))) (w32 (r1 + (w32 (((BitVec.toNat ((BitVec.ofInt (IntKind.bits IntKind.u32) (w32 (((BitVec.toNat ((BitVec.ofInt (IntKind.bits IntKind.u32) (w32 (((BitVec.toNat ((BitVec.ofInt (IntKind.bits IntKind.u32) (v_9.getD (0 : Int).toNat 0)) &&& (BitVec.ofInt (IntKind.bits IntKind.u32) (v_9.getD (1 : Int).toNat 0)))) : Nat) : Int))) ^^^ (BitVec.ofInt (IntKind.bits IntKind.u32) (w32 (((BitVec.toNat ((BitVec.ofInt (IntKind.bits IntKind.u32) (v_9.getD (0 : Int).toNat 0)) &&& (BitVec.ofInt (IntKind.bits IntKind.u32) (v_9.getD (2 : Int).toNat 0)))) : Nat) : Int))))) : Nat) : Int))) ^^^ (BitVec.ofInt (IntKind.bits IntKind.u32) (w32 (((BitVec.toNat ((BitVec.ofInt (IntKind.bits IntKind.u32) (v_9.getD (1 : Int).toNat 0)) &&& (BitVec.ofInt (IntKind.bits IntKind.u32) (v_9.getD (2 : Int).toNat 0)))) : Nat) : Int))))) : Nat) : Int)))) (7 : Int) v_7 v_9)
      else none
      else none
      else none
      else none
      else none
      else none
      else none
      else none
      else none
      else none
      else none
      else none
      else none
    else
      k (.c3 t_0 (0 : Int) v_9 [])
  | .c2 t_0 o_1 v_10 v_13 v_15 v_16 v_7 v_9 =>
    bif (decide (v_16 > 0)) then
      bif ((decide (0 ≤ (w64 (v_16 - 1)))) && (decide ((w64 (v_16 - 1)) < (v_9.length : Int)))) then
      bif ((decide (0 ≤ v_16)) && (decide (v_16 < (v_9.length : Int)))) then
      k (.c2 t_0 o_1 v_10 v_13 v_15 (w64 (v_16 - 1)) v_7 (v_9.set v_16.toNat (v_9.getD (w64 (v_16 - 1)).toNat 0)))
      else none
      else none
    else
      bif ((decide ((0 : Int) ≤ (4 : Int))) && (decide (4 < (v_9.length : Int)))) then
      bif ((decide ((0 : Int) ≤ (4 : Int))) && (decide (4 < (v_9.length : Int)))) then
      bif ((decide ((0 : Int) ≤ (0 : Int))) && (decide (0 < ((v_9.set (4 : Int).toNat (w32 ((v_9.getD (4 : Int).toNat 0) + v_13))).length : Int)))) then
      k (.c1 t_0 o_1 (w64 (v_10 + 1)) v_7 ((v_9.set (4 : Int).toNat (w32 ((v_9.getD (4 : Int).toNat 0) + v_13))).set (0 : Int).toNat (w32 (v_13 + v_15))))
      else none
      else none
      else none
  | .c3 t_0 v_18 v_9 v_17 =>
    bif (decide (v_18 < 8)) then
      bif ((decide (0 ≤ v_18)) && (decide (v_18 < (t_0.length : Int)))) then
      bif ((decide (0 ≤ v_18)) && (decide (v_18 < (v_9.length : Int)))) then
      bif (decide (((v_17.length + 1) * 4) ≤ 140737488355328)) then
      k (.c3 t_0 (w64 (v_18 + 1)) v_9 (v_17 ++ [(w32 ((t_0.getD v_18.toNat 0) + (v_9.getD v_18.toNat 0)))]))
      else none
      else none
      else none
    else
      some v_17
noncomputable def L_spec_l05Round : Nat → St_spec_l05Round → Option (List Int)
  | 0, _ => none
  | m + 1, s => B_spec_l05Round spec_l05Words spec_l05S (L_spec_l05Round m) s
noncomputable def spec_l05Round (t_0 : (List Int)) (o_1 : (List Int)) (A_2 : ByteArray) : Option (List Int) := E_spec_l05Round spec_l05Words spec_l05S (L_spec_l05Round gas) t_0 o_1 A_2
theorem e_spec_l05Round (spec_l05Words : ByteArray → Option (List Int)) (spec_l05S : Int → Int → Int → Int → Bool → Option Int) : EntryIs ctx PP 164 [] [(162, H_spec_l05Words spec_l05Words), (178, H_spec_l05S spec_l05S)] cv12 cv5 at_spec_l05Round (fun k a => E_spec_l05Round spec_l05Words spec_l05S k a.1 a.2.1 a.2.2) := fun stop a => by kernel_rfl
theorem b_spec_l05Round (spec_l05Words : ByteArray → Option (List Int)) (spec_l05S : Int → Int → Int → Int → Bool → Option Int) : CutIs ctx PP 164 Tryd.f164 [] [(162, H_spec_l05Words spec_l05Words), (178, H_spec_l05S spec_l05S)] cv5 at_spec_l05Round (B_spec_l05Round spec_l05Words spec_l05S) := fun stop s => by cases s <;> kernel_rfl
theorem i_spec_l05Round : ∀ s s', at_spec_l05Round s = at_spec_l05Round s' → s = s' := by
  intro s s' h
  cases s with
  | c0 v0 v1 v2 v3 => cases s' with
    | c0 w0 w1 w2 w3 => cases h; rfl
    | c1 w0 w1 w2 w3 w4 => exact (region_ne 3 8 h (by kernel_rfl) (by kernel_rfl) rfl).elim
    | c2 w0 w1 w2 w3 w4 w5 w6 w7 => exact (region_ne 3 16 h (by kernel_rfl) (by kernel_rfl) rfl).elim
    | c3 w0 w1 w2 w3 => exact (region_ne 3 23 h (by kernel_rfl) (by kernel_rfl) rfl).elim
  | c1 v0 v1 v2 v3 v4 => cases s' with
    | c0 w0 w1 w2 w3 => exact (region_ne 8 3 h (by kernel_rfl) (by kernel_rfl) rfl).elim
    | c1 w0 w1 w2 w3 w4 => cases h; rfl
    | c2 w0 w1 w2 w3 w4 w5 w6 w7 => exact (region_ne 8 16 h (by kernel_rfl) (by kernel_rfl) rfl).elim
    | c3 w0 w1 w2 w3 => exact (region_ne 8 23 h (by kernel_rfl) (by kernel_rfl) rfl).elim
  | c2 v0 v1 v2 v3 v4 v5 v6 v7 => cases s' with
    | c0 w0 w1 w2 w3 => exact (region_ne 16 3 h (by kernel_rfl) (by kernel_rfl) rfl).elim
    | c1 w0 w1 w2 w3 w4 => exact (region_ne 16 8 h (by kernel_rfl) (by kernel_rfl) rfl).elim
    | c2 w0 w1 w2 w3 w4 w5 w6 w7 => cases h; rfl
    | c3 w0 w1 w2 w3 => exact (region_ne 16 23 h (by kernel_rfl) (by kernel_rfl) rfl).elim
  | c3 v0 v1 v2 v3 => cases s' with
    | c0 w0 w1 w2 w3 => exact (region_ne 23 3 h (by kernel_rfl) (by kernel_rfl) rfl).elim
    | c1 w0 w1 w2 w3 w4 => exact (region_ne 23 8 h (by kernel_rfl) (by kernel_rfl) rfl).elim
    | c2 w0 w1 w2 w3 w4 w5 w6 w7 => exact (region_ne 23 16 h (by kernel_rfl) (by kernel_rfl) rfl).elim
    | c3 w0 w1 w2 w3 => cases h; rfl
theorem ok_spec_l05Round : Tells ctx PP 164 cv12 cv5 (fun a => spec_l05Round a.1 a.2.1 a.2.2) := fn_ok (hl_cons h_spec_l05Words (hl_cons h_spec_l05S hl_nil)) Tryd.func164 i_spec_l05Round (fun _ => rfl) (fun _ _ => rfl) (b_spec_l05Round spec_l05Words spec_l05S) (e_spec_l05Round spec_l05Words spec_l05S) gas
noncomputable def H_spec_l05Round {γ : Type} (F : (List Int) → (List Int) → ByteArray → Option (List Int)) : Hd ctx γ := hdl cv12.dec (fun a => F a.1 a.2.1 a.2.2) cv5.enc
theorem h_spec_l05Round {γ : Type} : HdOk (γ := γ) PP 164 (H_spec_l05Round spec_l05Round) := hd_ok ok_spec_l05Round
noncomputable def todo_spec_HashMore_0 : List Go.Item := [.code (cAt (bodyOf Tryd.f129) [1, 1, 1, 1, 1, 1, 0, 0, 0, 0, 0]), .code (cAt (bodyOf Tryd.f129) [1, 1, 1, 1, 1, 1, 0, 0, 0, 0, 1]), .code (cAt (bodyOf Tryd.f129) [1, 1, 1, 1, 1, 1, 0, 0, 0, 1]), .inLoop (cAt (bodyOf Tryd.f129) [1, 1, 1, 1, 1, 1, 0, 0, 0]), .inBlock 0, .code (cAt (bodyOf Tryd.f129) [1, 1, 1, 1, 1, 1, 1])]
inductive St_spec_HashMore where
  | c0 (s_1 : ByteArray) (buf_7 : ByteArray) (at_8 : Int) (h_2 : SHasher) (v_4 : SHasher) (state_5 : (List Int)) (k_6 : (List Int))
noncomputable def at_spec_HashMore : St_spec_HashMore → LI
  | .c0 s_1 buf_7 at_8 h_2 v_4 state_5 k_6 => (todo_spec_HashMore_0, [(1, [.one (.str s_1)]), (2, [.one (.ptr 128 0)]), (4, [.one (.ptr 256 0)]), (5, [.one (.own 368)]), (6, [.one (.own 432)]), (7, [.one (.str buf_7)]), (8, [.one (.int .i64 at_8)])], [(128, .var [.str h_2.fState, .str h_2.fRest, .int .i64 h_2.fCount]), (256, .var [.str v_4.fState, .str v_4.fRest, .int .i64 v_4.fCount]), (368, .sl 138 state_5), (432, .sl 138 k_6)])
noncomputable def E_spec_HashMore (spec_HasherOk : SHasher → Option Bool) (spec_l05Words : ByteArray → Option (List Int)) (spec_l05K : Option (List Int)) (spec_l05Round : (List Int) → (List Int) → ByteArray → Option (List Int)) (spec_l05Bytes : (List Int) → Option ByteArray) (k : St_spec_HashMore → Option SHasher) (h_0 : SHasher) (s_1 : ByteArray) : Option SHasher :=
  (spec_HasherOk h_0).bind fun r0 =>
  bif (!r0) then
    some h_0
  else
    bif (decide ((w64 (h_0.fCount + (s_1.size : Int))) > 1000000000)) then
      some h_0
    else
      (spec_l05Words h_0.fState).bind fun r1 =>
      spec_l05K.bind fun r2 =>
      bif (decide ((h_0.fRest.size + s_1.size) ≤ 9223372036854775807)) then
      k (.c0 s_1 (h_0.fRest ++ s_1) (0 : Int) h_0 (⟨(⟨#[]⟩ : ByteArray), (⟨#[]⟩ : ByteArray), (0 : Int)⟩ : SHasher) r1 r2)
      else none
noncomputable def B_spec_HashMore (spec_HasherOk : SHasher → Option Bool) (spec_l05Words : ByteArray → Option (List Int)) (spec_l05K : Option (List Int)) (spec_l05Round : (List Int) → (List Int) → ByteArray → Option (List Int)) (spec_l05Bytes : (List Int) → Option ByteArray) (k : St_spec_HashMore → Option SHasher) : St_spec_HashMore → Option SHasher
  | .c0 s_1 buf_7 at_8 h_2 v_4 state_5 k_6 =>
    bif (decide ((w64 (at_8 + 64)) ≤ (buf_7.size : Int))) then
      bif (((decide (0 ≤ at_8)) && (decide (at_8 ≤ (w64 (at_8 + 64))))) && (decide ((w64 (at_8 + 64)) ≤ (buf_7.size : Int)))) then
      (spec_l05Round state_5 k_6 (buf_7.extract at_8.toNat (w64 (at_8 + 64)).toNat)).bind fun r0 =>
      k (.c0 s_1 buf_7 (w64 (at_8 + 64)) h_2 v_4 r0 k_6)
      else none
    else
      (spec_l05Bytes state_5).bind fun r1 =>
      bif ((decide (0 ≤ at_8)) && (decide (at_8 ≤ (buf_7.size : Int)))) then
      some (⟨r1, (buf_7.extract at_8.toNat buf_7.size), (w64 (h_2.fCount + (s_1.size : Int)))⟩ : SHasher)
      else none
noncomputable def L_spec_HashMore : Nat → St_spec_HashMore → Option SHasher
  | 0, _ => none
  | m + 1, s => B_spec_HashMore spec_HasherOk spec_l05Words spec_l05K spec_l05Round spec_l05Bytes (L_spec_HashMore m) s
noncomputable def spec_HashMore (h_0 : SHasher) (s_1 : ByteArray) : Option SHasher := E_spec_HashMore spec_HasherOk spec_l05Words spec_l05K spec_l05Round spec_l05Bytes (L_spec_HashMore gas) h_0 s_1
theorem e_spec_HashMore (spec_HasherOk : SHasher → Option Bool) (spec_l05Words : ByteArray → Option (List Int)) (spec_l05K : Option (List Int)) (spec_l05Round : (List Int) → (List Int) → ByteArray → Option (List Int)) (spec_l05Bytes : (List Int) → Option ByteArray) : EntryIs ctx PP 129 [] [(161, H_spec_HasherOk spec_HasherOk), (162, H_spec_l05Words spec_l05Words), (163, H_spec_l05K spec_l05K), (164, H_spec_l05Round spec_l05Round), (165, H_spec_l05Bytes spec_l05Bytes)] cv13 cv7 at_spec_HashMore (fun k a => E_spec_HashMore spec_HasherOk spec_l05Words spec_l05K spec_l05Round spec_l05Bytes k a.1 a.2) := fun stop a => by kernel_rfl
theorem b_spec_HashMore (spec_HasherOk : SHasher → Option Bool) (spec_l05Words : ByteArray → Option (List Int)) (spec_l05K : Option (List Int)) (spec_l05Round : (List Int) → (List Int) → ByteArray → Option (List Int)) (spec_l05Bytes : (List Int) → Option ByteArray) : CutIs ctx PP 129 Tryd.f129 [] [(161, H_spec_HasherOk spec_HasherOk), (162, H_spec_l05Words spec_l05Words), (163, H_spec_l05K spec_l05K), (164, H_spec_l05Round spec_l05Round), (165, H_spec_l05Bytes spec_l05Bytes)] cv7 at_spec_HashMore (B_spec_HashMore spec_HasherOk spec_l05Words spec_l05K spec_l05Round spec_l05Bytes) := fun stop s => by cases s <;> kernel_rfl
theorem i_spec_HashMore : ∀ s s', at_spec_HashMore s = at_spec_HashMore s' → s = s' := by
  intro s s' h
  cases s with
  | c0 v0 v1 v2 v3 v4 v5 v6 => cases s' with
    | c0 w0 w1 w2 w3 w4 w5 w6 => obtain ⟨_, _, _⟩ := v3; obtain ⟨_, _, _⟩ := w3; obtain ⟨_, _, _⟩ := v4; obtain ⟨_, _, _⟩ := w4; cases h; rfl
theorem ok_spec_HashMore : Tells ctx PP 129 cv13 cv7 (fun a => spec_HashMore a.1 a.2) := fn_ok (hl_cons h_spec_HasherOk (hl_cons h_spec_l05Words (hl_cons h_spec_l05K (hl_cons h_spec_l05Round (hl_cons h_spec_l05Bytes hl_nil))))) Tryd.func129 i_spec_HashMore (fun _ => rfl) (fun _ _ => rfl) (b_spec_HashMore spec_HasherOk spec_l05Words spec_l05K spec_l05Round spec_l05Bytes) (e_spec_HashMore spec_HasherOk spec_l05Words spec_l05K spec_l05Round spec_l05Bytes) gas
noncomputable def H_spec_HashMore {γ : Type} (F : SHasher → ByteArray → Option SHasher) : Hd ctx γ := hdl cv13.dec (fun a => F a.1 a.2) cv7.enc
theorem h_spec_HashMore {γ : Type} : HdOk (γ := γ) PP 129 (H_spec_HashMore spec_HashMore) := hd_ok ok_spec_HashMore
noncomputable def todo_spec_HashEnd_0 : List Go.Item := [.code (cAt (bodyOf Tryd.f128) [1, 1, 1, 1, 0, 0, 0, 0, 0]), .code (cAt (bodyOf Tryd.f128) [1, 1, 1, 1, 0, 0, 0, 0, 1]), .code (cAt (bodyOf Tryd.f128) [1, 1, 1, 1, 0, 0, 0, 1]), .inLoop (cAt (bodyOf Tryd.f128) [1, 1, 1, 1, 0, 0, 0]), .inBlock 0, .code (cAt (bodyOf Tryd.f128) [1, 1, 1, 1, 1])]
noncomputable def todo_spec_HashEnd_1 : List Go.Item := [.code (cAt (bodyOf Tryd.f128) [1, 1, 1, 1, 1, 1, 0, 1, 0, 0, 0, 0]), .code (cAt (bodyOf Tryd.f128) [1, 1, 1, 1, 1, 1, 0, 1, 0, 0, 0, 1]), .code (cAt (bodyOf Tryd.f128) [1, 1, 1, 1, 1, 1, 0, 1, 0, 0, 1]), .inLoop (cAt (bodyOf Tryd.f128) [1, 1, 1, 1, 1, 1, 0, 1, 0, 0]), .inBlock 2, .code (cAt (bodyOf Tryd.f128) [1, 1, 1, 1, 1, 1, 1])]
noncomputable def todo_spec_HashEnd_2 : List Go.Item := [.code (cAt (bodyOf Tryd.f128) [1, 1, 1, 1, 1, 1, 0, 1, 0, 0, 1, 0, 0, 1, 0, 1, 0, 0, 0, 0]), .code (cAt (bodyOf Tryd.f128) [1, 1, 1, 1, 1, 1, 0, 1, 0, 0, 1, 0, 0, 1, 0, 1, 0, 0, 0, 1]), .code (cAt (bodyOf Tryd.f128) [1, 1, 1, 1, 1, 1, 0, 1, 0, 0, 1, 0, 0, 1, 0, 1, 0, 0, 1]), .inLoop (cAt (bodyOf Tryd.f128) [1, 1, 1, 1, 1, 1, 0, 1, 0, 0, 1, 0, 0, 1, 0, 1, 0, 0]), .inBlock 4, .code (cAt (bodyOf Tryd.f128) [1, 1, 1, 1, 1, 1, 0, 1, 0, 0, 1, 0, 0, 1, 1]), .inBlock 3, .code (cAt (bodyOf Tryd.f128) [1, 1, 1, 1, 1, 1, 0, 1, 0, 0, 1, 1]), .inLoop (cAt (bodyOf Tryd.f128) [1, 1, 1, 1, 1, 1, 0, 1, 0, 0]), .inBlock 2, .code (cAt (bodyOf Tryd.f128) [1, 1, 1, 1, 1, 1, 1])]
noncomputable def todo_spec_HashEnd_3 : List Go.Item := [.code (cAt (bodyOf Tryd.f128) [1, 1, 1, 1, 1, 1, 1, 1, 1, 0, 1, 0, 0, 0, 0]), .code (cAt (bodyOf Tryd.f128) [1, 1, 1, 1, 1, 1, 1, 1, 1, 0, 1, 0, 0, 0, 1]), .code (cAt (bodyOf Tryd.f128) [1, 1, 1, 1, 1, 1, 1, 1, 1, 0, 1, 0, 0, 1]), .inLoop (cAt (bodyOf Tryd.f128) [1, 1, 1, 1, 1, 1, 1, 1, 1, 0, 1, 0, 0]), .inBlock 6, .code (cAt (bodyOf Tryd.f128) [1, 1, 1, 1, 1, 1, 1, 1, 1, 1])]
inductive St_spec_HashEnd where
  | c0 (h_1 : SHasher) (tail_3 : (List Int))
  | c1 (bits_4 : Int) (i_5 : Int) (h_1 : SHasher) (tail_3 : (List Int))
  | c2 (bits_4 : Int) (i_5 : Int) (x_6 : Int) (k_7 : Int) (h_1 : SHasher) (tail_3 : (List Int))
  | c3 (at_10 : Int) (tail_3 : (List Int)) (state_8 : (List Int)) (k_9 : (List Int))
noncomputable def at_spec_HashEnd : St_spec_HashEnd → LI
  | .c0 h_1 tail_3 => (todo_spec_HashEnd_0, [(1, [.one (.ptr 64 0)]), (3, [.one (.own 240)])], [(64, .var [.str h_1.fState, .str h_1.fRest, .int .i64 h_1.fCount]), (240, .sl 5 tail_3)])
  | .c1 bits_4 i_5 h_1 tail_3 => (todo_spec_HashEnd_1, [(1, [.one (.ptr 64 0)]), (3, [.one (.own 240)]), (4, [.one (.int .i64 bits_4)]), (5, [.one (.int .i64 i_5)])], [(64, .var [.str h_1.fState, .str h_1.fRest, .int .i64 h_1.fCount]), (240, .sl 5 tail_3)])
  | .c2 bits_4 i_5 x_6 k_7 h_1 tail_3 => (todo_spec_HashEnd_2, [(1, [.one (.ptr 64 0)]), (3, [.one (.own 240)]), (4, [.one (.int .i64 bits_4)]), (5, [.one (.int .i64 i_5)]), (6, [.one (.int .i64 x_6)]), (7, [.one (.int .i64 k_7)])], [(64, .var [.str h_1.fState, .str h_1.fRest, .int .i64 h_1.fCount]), (240, .sl 5 tail_3)])
  | .c3 at_10 tail_3 state_8 k_9 => (todo_spec_HashEnd_3, [(3, [.one (.own 240)]), (8, [.one (.own 560)]), (9, [.one (.own 624)]), (10, [.one (.int .i64 at_10)])], [(240, .sl 5 tail_3), (560, .sl 138 state_8), (624, .sl 138 k_9)])
noncomputable def E_spec_HashEnd (spec_HasherOk : SHasher → Option Bool) (spec_l05Words : ByteArray → Option (List Int)) (spec_l05K : Option (List Int)) (spec_l05Round : (List Int) → (List Int) → ByteArray → Option (List Int)) (spec_l05Bytes : (List Int) → Option ByteArray) (k : St_spec_HashEnd → Option ByteArray) (h_0 : SHasher) : Option ByteArray :=
  (spec_HasherOk h_0).bind fun r0 =>
  bif (!r0) then
    some (⟨#[]⟩ : ByteArray)
  else
    bif (decide (h_0.fRest.size ≤ 9223372036854775807)) then
    bif (decide ((((bytesOf h_0.fRest).length + 1) * 1) ≤ 140737488355328)) then
    k (.c0 h_0 ((bytesOf h_0.fRest) ++ [(128 : Int)]))
    else none
    else none
noncomputable def B_spec_HashEnd (spec_HasherOk : SHasher → Option Bool) (spec_l05Words : ByteArray → Option (List Int)) (spec_l05K : Option (List Int)) (spec_l05Round : (List Int) → (List Int) → ByteArray → Option (List Int)) (spec_l05Bytes : (List Int) → Option ByteArray) (k : St_spec_HashEnd → Option ByteArray) : St_spec_HashEnd → Option ByteArray
  | .c0 h_1 tail_3 =>
    bif (((tail_3.length : Int).tmod 64) != 56) then
      bif (decide (((tail_3.length + 1) * 1) ≤ 140737488355328)) then
      k (.c0 h_1 (tail_3 ++ [(0 : Int)]))
      else none
    else
      k (.c1 (w64 (8 * h_1.fCount)) (7 : Int) h_1 tail_3)
  | .c1 bits_4 i_5 h_1 tail_3 =>
    bif (decide (i_5 ≥ 0)) then
      k (.c2 bits_4 i_5 bits_4 (0 : Int) h_1 tail_3)
    else
      (spec_l05Words h_1.fState).bind fun r0 =>
      spec_l05K.bind fun r1 =>
      k (.c3 (0 : Int) tail_3 r0 r1)
  | .c2 bits_4 i_5 x_6 k_7 h_1 tail_3 =>
    bif (decide (k_7 < i_5)) then
      k (.c2 bits_4 i_5 (w64 (x_6.tdiv 256)) (w64 (k_7 + 1)) h_1 tail_3)
    else
      bif (decide (((tail_3.length + 1) * 1) ≤ 140737488355328)) then
      k (.c1 bits_4 (w64 (i_5 - 1)) h_1 (tail_3 ++ [(w8 (x_6.tmod 256))]))
      else none
  | .c3 at_10 tail_3 state_8 k_9 =>
    bif (decide (at_10 < (tail_3.length : Int))) then
      bif (((decide (0 ≤ at_10)) && (decide (at_10 ≤ (w64 (at_10 + 64))))) && (decide ((w64 (at_10 + 64)) ≤ (tail_3.length : Int)))) then
      (spec_l05Round state_8 k_9 (ofBytes ((tail_3.drop at_10.toNat).take ((w64 (at_10 + 64)).toNat - at_10.toNat)))).bind fun r0 =>
      k (.c3 (w64 (at_10 + 64)) tail_3 r0 k_9)
      else none
    else
      (spec_l05Bytes state_8).bind fun r1 =>
      some r1
noncomputable def L_spec_HashEnd : Nat → St_spec_HashEnd → Option ByteArray
  | 0, _ => none
  | m + 1, s => B_spec_HashEnd spec_HasherOk spec_l05Words spec_l05K spec_l05Round spec_l05Bytes (L_spec_HashEnd m) s
noncomputable def spec_HashEnd (h_0 : SHasher) : Option ByteArray := E_spec_HashEnd spec_HasherOk spec_l05Words spec_l05K spec_l05Round spec_l05Bytes (L_spec_HashEnd gas) h_0
theorem e_spec_HashEnd (spec_HasherOk : SHasher → Option Bool) (spec_l05Words : ByteArray → Option (List Int)) (spec_l05K : Option (List Int)) (spec_l05Round : (List Int) → (List Int) → ByteArray → Option (List Int)) (spec_l05Bytes : (List Int) → Option ByteArray) : EntryIs ctx PP 128 [] [(161, H_spec_HasherOk spec_HasherOk), (162, H_spec_l05Words spec_l05Words), (163, H_spec_l05K spec_l05K), (164, H_spec_l05Round spec_l05Round), (165, H_spec_l05Bytes spec_l05Bytes)] cv7 cv1 at_spec_HashEnd (fun k a => E_spec_HashEnd spec_HasherOk spec_l05Words spec_l05K spec_l05Round spec_l05Bytes k a) := fun stop a => by kernel_rfl
theorem b_spec_HashEnd (spec_HasherOk : SHasher → Option Bool) (spec_l05Words : ByteArray → Option (List Int)) (spec_l05K : Option (List Int)) (spec_l05Round : (List Int) → (List Int) → ByteArray → Option (List Int)) (spec_l05Bytes : (List Int) → Option ByteArray) : CutIs ctx PP 128 Tryd.f128 [] [(161, H_spec_HasherOk spec_HasherOk), (162, H_spec_l05Words spec_l05Words), (163, H_spec_l05K spec_l05K), (164, H_spec_l05Round spec_l05Round), (165, H_spec_l05Bytes spec_l05Bytes)] cv1 at_spec_HashEnd (B_spec_HashEnd spec_HasherOk spec_l05Words spec_l05K spec_l05Round spec_l05Bytes) := fun stop s => by cases s <;> kernel_rfl
theorem i_spec_HashEnd : ∀ s s', at_spec_HashEnd s = at_spec_HashEnd s' → s = s' := by
  intro s s' h
  cases s with
  | c0 v0 v1 => cases s' with
    | c0 w0 w1 => obtain ⟨_, _, _⟩ := v0; obtain ⟨_, _, _⟩ := w0; cases h; rfl
    | c1 w0 w1 w2 w3 => exact (region_ne 5 9 h (by kernel_rfl) (by kernel_rfl) rfl).elim
    | c2 w0 w1 w2 w3 w4 w5 => exact (region_ne 5 13 h (by kernel_rfl) (by kernel_rfl) rfl).elim
    | c3 w0 w1 w2 w3 => exact (region_ne 5 20 h (by kernel_rfl) (by kernel_rfl) rfl).elim
  | c1 v0 v1 v2 v3 => cases s' with
    | c0 w0 w1 => exact (region_ne 9 5 h (by kernel_rfl) (by kernel_rfl) rfl).elim
    | c1 w0 w1 w2 w3 => obtain ⟨_, _, _⟩ := v2; obtain ⟨_, _, _⟩ := w2; cases h; rfl
    | c2 w0 w1 w2 w3 w4 w5 => exact (region_ne 9 13 h (by kernel_rfl) (by kernel_rfl) rfl).elim
    | c3 w0 w1 w2 w3 => exact (region_ne 9 20 h (by kernel_rfl) (by kernel_rfl) rfl).elim
  | c2 v0 v1 v2 v3 v4 v5 => cases s' with
    | c0 w0 w1 => exact (region_ne 13 5 h (by kernel_rfl) (by kernel_rfl) rfl).elim
    | c1 w0 w1 w2 w3 => exact (region_ne 13 9 h (by kernel_rfl) (by kernel_rfl) rfl).elim
    | c2 w0 w1 w2 w3 w4 w5 => obtain ⟨_, _, _⟩ := v4; obtain ⟨_, _, _⟩ := w4; cases h; rfl
    | c3 w0 w1 w2 w3 => exact (region_ne 13 20 h (by kernel_rfl) (by kernel_rfl) rfl).elim
  | c3 v0 v1 v2 v3 => cases s' with
    | c0 w0 w1 => exact (region_ne 20 5 h (by kernel_rfl) (by kernel_rfl) rfl).elim
    | c1 w0 w1 w2 w3 => exact (region_ne 20 9 h (by kernel_rfl) (by kernel_rfl) rfl).elim
    | c2 w0 w1 w2 w3 w4 w5 => exact (region_ne 20 13 h (by kernel_rfl) (by kernel_rfl) rfl).elim
    | c3 w0 w1 w2 w3 => cases h; rfl
theorem ok_spec_HashEnd : Tells ctx PP 128 cv7 cv1 (fun a => spec_HashEnd a) := fn_ok (hl_cons h_spec_HasherOk (hl_cons h_spec_l05Words (hl_cons h_spec_l05K (hl_cons h_spec_l05Round (hl_cons h_spec_l05Bytes hl_nil))))) Tryd.func128 i_spec_HashEnd (fun _ => rfl) (fun _ _ => rfl) (b_spec_HashEnd spec_HasherOk spec_l05Words spec_l05K spec_l05Round spec_l05Bytes) (e_spec_HashEnd spec_HasherOk spec_l05Words spec_l05K spec_l05Round spec_l05Bytes) gas
noncomputable def H_spec_HashEnd {γ : Type} (F : SHasher → Option ByteArray) : Hd ctx γ := hdl cv7.dec (fun a => F a) cv1.enc
theorem h_spec_HashEnd {γ : Type} : HdOk (γ := γ) PP 128 (H_spec_HashEnd spec_HashEnd) := hd_ok ok_spec_HashEnd
noncomputable def E_spec_DigestOf (spec_HasherNew : Option SHasher) (spec_HashMore : SHasher → ByteArray → Option SHasher) (spec_HashEnd : SHasher → Option ByteArray) (s_0 : ByteArray) : Option ByteArray :=
  spec_HasherNew.bind fun r0 =>
  (spec_HashMore r0 s_0).bind fun r1 =>
  (spec_HashEnd r1).bind fun r2 =>
  some r2
noncomputable def spec_DigestOf (s_0 : ByteArray) : Option ByteArray := E_spec_DigestOf spec_HasherNew spec_HashMore spec_HashEnd s_0
theorem e_spec_DigestOf (spec_HasherNew : Option SHasher) (spec_HashMore : SHasher → ByteArray → Option SHasher) (spec_HashEnd : SHasher → Option ByteArray) : EntryIs0 ctx PP 78 [] [(130, H_spec_HasherNew spec_HasherNew), (129, H_spec_HashMore spec_HashMore), (128, H_spec_HashEnd spec_HashEnd)] cv1 cv1 (fun a => E_spec_DigestOf spec_HasherNew spec_HashMore spec_HashEnd a) := fun a => by kernel_rfl
theorem ok_spec_DigestOf : Tells ctx PP 78 cv1 cv1 (fun a => spec_DigestOf a) := fn_ok0 (hl_cons h_spec_HasherNew (hl_cons h_spec_HashMore (hl_cons h_spec_HashEnd hl_nil))) Tryd.func78 (e_spec_DigestOf spec_HasherNew spec_HashMore spec_HashEnd)
noncomputable def H_spec_DigestOf {γ : Type} (F : ByteArray → Option ByteArray) : Hd ctx γ := hdl cv1.dec (fun a => F a) cv1.enc
theorem h_spec_DigestOf {γ : Type} : HdOk (γ := γ) PP 78 (H_spec_DigestOf spec_DigestOf) := hd_ok ok_spec_DigestOf
noncomputable def todo_spec_Enter_0 : List Go.Item := [.code (cAt (bodyOf Tryd.f29) [1, 1, 1, 1, 0, 1, 0, 1, 1, 1, 1, 1, 1, 1, 0, 1, 1, 1, 0, 1, 0, 0, 0, 0]), .code (cAt (bodyOf Tryd.f29) [1, 1, 1, 1, 0, 1, 0, 1, 1, 1, 1, 1, 1, 1, 0, 1, 1, 1, 0, 1, 0, 0, 0, 1]), .code (cAt (bodyOf Tryd.f29) [1, 1, 1, 1, 0, 1, 0, 1, 1, 1, 1, 1, 1, 1, 0, 1, 1, 1, 0, 1, 0, 0, 1]), .inLoop (cAt (bodyOf Tryd.f29) [1, 1, 1, 1, 0, 1, 0, 1, 1, 1, 1, 1, 1, 1, 0, 1, 1, 1, 0, 1, 0, 0]), .inBlock 1, .code (cAt (bodyOf Tryd.f29) [1, 1, 1, 1, 0, 1, 0, 1, 1, 1, 1, 1, 1, 1, 0, 1, 1, 1, 1]), .inBlock 0, .code (cAt (bodyOf Tryd.f29) [1, 1, 1, 1, 1])]
inductive St_spec_Enter where
  | c0 (y_6 : ByteArray) (v_14 : Int) (A_2 : SBook) (r_3 : SRec) (r_4c0 : ByteArray) (r_4c1 : Int) (r_4c3 : Int) (r_4c4 : ByteArray) (r_4c5 : Int) (v_8c0 : ByteArray) (v_8c1 : Int) (v_8c3 : Int) (v_8c4 : ByteArray) (v_8c5 : Int) (v_13 : (List SThing)) (r_4r2 : (List SThing)) (v_8r2 : (List SThing))
noncomputable def at_spec_Enter : St_spec_Enter → LI
  | .c0 y_6 v_14 A_2 r_3 r_4c0 r_4c1 r_4c3 r_4c4 r_4c5 v_8c0 v_8c1 v_8c3 v_8c4 v_8c5 v_13 r_4r2 v_8r2 => (todo_spec_Enter_0, [(2, [.one (.ptr 128 0)]), (3, [.one (.ptr 192 0)]), (4, [.one (.ptr 256 0)]), (6, [.one (.str y_6)]), (8, [.one (.ptr 512 0)]), (13, [.one (.own 880)]), (14, [.one (.int .i64 v_14)])], [(128, .var [.str A_2.fWord, .int .i64 A_2.fTries, .rsl 33 A_2.fThings, .int .i64 A_2.fLast, .str A_2.fChain, .int .i64 A_2.fCount]), (192, .var [.int .i64 r_3.fKind, .str r_3.fText, .int .i64 r_3.fNum, .int .i64 r_3.fThing.fId, .int .i64 r_3.fThing.fKind, .bool r_3.fThing.fHidden, .bool r_3.fThing.fFixed, .bool r_3.fThing.fSigns, .bool r_3.fThing.fWraps, .str r_3.fThing.fValue, .int .i64 r_3.fThing.fNext]), (256, .var [.str r_4c0, .int .i64 r_4c1, .own 1016386, .int .i64 r_4c3, .str r_4c4, .int .i64 r_4c5]), (512, .var [.str v_8c0, .int .i64 v_8c1, .own 1032770, .int .i64 v_8c3, .str v_8c4, .int .i64 v_8c5]), (880, .sl 33 v_13), (1016386, .sl 33 r_4r2), (1032770, .sl 33 v_8r2)])
noncomputable def E_spec_Enter (spec_RecText : SRec → Option (ByteArray × Bool)) (spec_BookOk : SBook → Option Bool) (spec_l21Copy : SBook → Option SBook) (spec_ThingOf : SBook → Int → Option (SThing × Bool)) (spec_l21Grown : SThing → SThing → Option Bool) (spec_l21Put : (List SThing) → SThing → Option (List SThing)) (spec_DigestOf : ByteArray → Option ByteArray) (k : St_spec_Enter → Option (SBook × Bool)) (t_0 : SBook) (o_1 : SRec) : Option (SBook × Bool) :=
  (spec_RecText o_1).bind fun r0 =>
  (spec_BookOk t_0).bind fun r1 =>
  bif (!r1) then
    some ((⟨(⟨#[]⟩ : ByteArray), (0 : Int), [], (0 : Int), (⟨#[]⟩ : ByteArray), (0 : Int)⟩ : SBook), false)
  else
    bif (!r0.2) then
      some ((⟨(⟨#[]⟩ : ByteArray), (0 : Int), [], (0 : Int), (⟨#[]⟩ : ByteArray), (0 : Int)⟩ : SBook), false)
    else
      bif (t_0.fCount == 10000) then
        some ((⟨(⟨#[]⟩ : ByteArray), (0 : Int), [], (0 : Int), (⟨#[]⟩ : ByteArray), (0 : Int)⟩ : SBook), false)
      else
        (spec_l21Copy t_0).bind fun r2 =>
        bif (o_1.fKind == 1) then
          bif (decide ((t_0.fChain.size + r0.1.size) ≤ 9223372036854775807)) then
          (spec_DigestOf (t_0.fChain ++ r0.1)).bind fun r3 =>
          (spec_BookOk (⟨o_1.fText, (0 : Int), r2.fThings, r2.fLast, r3, (w64 (t_0.fCount + 1))⟩ : SBook)).bind fun r4 =>
          bif (!r4) then
            some ((⟨(⟨#[]⟩ : ByteArray), (0 : Int), [], (0 : Int), (⟨#[]⟩ : ByteArray), (0 : Int)⟩ : SBook), false)
          else
            some ((⟨o_1.fText, (0 : Int), r2.fThings, r2.fLast, r3, (w64 (t_0.fCount + 1))⟩ : SBook), true)
          else none
        else
          bif (o_1.fKind == 2) then
            bif (decide ((t_0.fChain.size + r0.1.size) ≤ 9223372036854775807)) then
            (spec_DigestOf (t_0.fChain ++ r0.1)).bind fun r5 =>
            (spec_BookOk (⟨r2.fWord, o_1.fNum, r2.fThings, r2.fLast, r5, (w64 (t_0.fCount + 1))⟩ : SBook)).bind fun r6 =>
            bif (!r6) then
              some ((⟨(⟨#[]⟩ : ByteArray), (0 : Int), [], (0 : Int), (⟨#[]⟩ : ByteArray), (0 : Int)⟩ : SBook), false)
            else
              some ((⟨r2.fWord, o_1.fNum, r2.fThings, r2.fLast, r5, (w64 (t_0.fCount + 1))⟩ : SBook), true)
            else none
          else
            bif (o_1.fKind == 3) then
              (spec_ThingOf t_0 o_1.fThing.fId).bind fun r7 =>
              bif r7.2 then
                (spec_l21Grown r7.1 o_1.fThing).bind fun r8 =>
                bif (!r8) then
                  some ((⟨(⟨#[]⟩ : ByteArray), (0 : Int), [], (0 : Int), (⟨#[]⟩ : ByteArray), (0 : Int)⟩ : SBook), false)
                else
                  bif (!r7.2) then
                    bif (o_1.fThing.fId != (w64 (t_0.fLast + 1))) then
                      some ((⟨(⟨#[]⟩ : ByteArray), (0 : Int), [], (0 : Int), (⟨#[]⟩ : ByteArray), (0 : Int)⟩ : SBook), false)
                    else
                      bif ((t_0.fThings.length : Int) == 8) then
                        some ((⟨(⟨#[]⟩ : ByteArray), (0 : Int), [], (0 : Int), (⟨#[]⟩ : ByteArray), (0 : Int)⟩ : SBook), false)
                      else
                        bif (!r7.2) then
                          (spec_l21Put t_0.fThings o_1.fThing).bind fun r9 =>
                          bif (decide ((t_0.fChain.size + r0.1.size) ≤ 9223372036854775807)) then
                          (spec_DigestOf (t_0.fChain ++ r0.1)).bind fun r10 =>
                          (spec_BookOk (⟨r2.fWord, r2.fTries, r9, o_1.fThing.fId, r10, (w64 (t_0.fCount + 1))⟩ : SBook)).bind fun r11 =>
                          bif (!r11) then
                            some ((⟨(⟨#[]⟩ : ByteArray), (0 : Int), [], (0 : Int), (⟨#[]⟩ : ByteArray), (0 : Int)⟩ : SBook), false)
                          else
                            some ((⟨r2.fWord, r2.fTries, r9, o_1.fThing.fId, r10, (w64 (t_0.fCount + 1))⟩ : SBook), true)
                          else none
                        else
                          (spec_l21Put t_0.fThings o_1.fThing).bind fun r12 =>
                          bif (decide ((t_0.fChain.size + r0.1.size) ≤ 9223372036854775807)) then
                          (spec_DigestOf (t_0.fChain ++ r0.1)).bind fun r13 =>
                          (spec_BookOk (⟨r2.fWord, r2.fTries, r12, r2.fLast, r13, (w64 (t_0.fCount + 1))⟩ : SBook)).bind fun r14 =>
                          bif (!r14) then
                            some ((⟨(⟨#[]⟩ : ByteArray), (0 : Int), [], (0 : Int), (⟨#[]⟩ : ByteArray), (0 : Int)⟩ : SBook), false)
                          else
                            some ((⟨r2.fWord, r2.fTries, r12, r2.fLast, r13, (w64 (t_0.fCount + 1))⟩ : SBook), true)
                          else none
                  else
                    bif (!r7.2) then
                      (spec_l21Put t_0.fThings o_1.fThing).bind fun r15 =>
                      bif (decide ((t_0.fChain.size + r0.1.size) ≤ 9223372036854775807)) then
                      (spec_DigestOf (t_0.fChain ++ r0.1)).bind fun r16 =>
                      (spec_BookOk (⟨r2.fWord, r2.fTries, r15, o_1.fThing.fId, r16, (w64 (t_0.fCount + 1))⟩ : SBook)).bind fun r17 =>
                      bif (!r17) then
                        some ((⟨(⟨#[]⟩ : ByteArray), (0 : Int), [], (0 : Int), (⟨#[]⟩ : ByteArray), (0 : Int)⟩ : SBook), false)
                      else
                        some ((⟨r2.fWord, r2.fTries, r15, o_1.fThing.fId, r16, (w64 (t_0.fCount + 1))⟩ : SBook), true)
                      else none
                    else
                      (spec_l21Put t_0.fThings o_1.fThing).bind fun r18 =>
                      bif (decide ((t_0.fChain.size + r0.1.size) ≤ 9223372036854775807)) then
                      (spec_DigestOf (t_0.fChain ++ r0.1)).bind fun r19 =>
                      (spec_BookOk (⟨r2.fWord, r2.fTries, r18, r2.fLast, r19, (w64 (t_0.fCount + 1))⟩ : SBook)).bind fun r20 =>
                      bif (!r20) then
                        some ((⟨(⟨#[]⟩ : ByteArray), (0 : Int), [], (0 : Int), (⟨#[]⟩ : ByteArray), (0 : Int)⟩ : SBook), false)
                      else
                        some ((⟨r2.fWord, r2.fTries, r18, r2.fLast, r19, (w64 (t_0.fCount + 1))⟩ : SBook), true)
                      else none
              else
                bif (!r7.2) then
                  bif (o_1.fThing.fId != (w64 (t_0.fLast + 1))) then
                    some ((⟨(⟨#[]⟩ : ByteArray), (0 : Int), [], (0 : Int), (⟨#[]⟩ : ByteArray), (0 : Int)⟩ : SBook), false)
                  else
                    bif ((t_0.fThings.length : Int) == 8) then
                      some ((⟨(⟨#[]⟩ : ByteArray), (0 : Int), [], (0 : Int), (⟨#[]⟩ : ByteArray), (0 : Int)⟩ : SBook), false)
                    else
                      bif (!r7.2) then
                        (spec_l21Put t_0.fThings o_1.fThing).bind fun r21 =>
                        bif (decide ((t_0.fChain.size + r0.1.size) ≤ 9223372036854775807)) then
                        (spec_DigestOf (t_0.fChain ++ r0.1)).bind fun r22 =>
                        (spec_BookOk (⟨r2.fWord, r2.fTries, r21, o_1.fThing.fId, r22, (w64 (t_0.fCount + 1))⟩ : SBook)).bind fun r23 =>
                        bif (!r23) then
                          some ((⟨(⟨#[]⟩ : ByteArray), (0 : Int), [], (0 : Int), (⟨#[]⟩ : ByteArray), (0 : Int)⟩ : SBook), false)
                        else
                          some ((⟨r2.fWord, r2.fTries, r21, o_1.fThing.fId, r22, (w64 (t_0.fCount + 1))⟩ : SBook), true)
                        else none
                      else
                        (spec_l21Put t_0.fThings o_1.fThing).bind fun r24 =>
                        bif (decide ((t_0.fChain.size + r0.1.size) ≤ 9223372036854775807)) then
                        (spec_DigestOf (t_0.fChain ++ r0.1)).bind fun r25 =>
                        (spec_BookOk (⟨r2.fWord, r2.fTries, r24, r2.fLast, r25, (w64 (t_0.fCount + 1))⟩ : SBook)).bind fun r26 =>
                        bif (!r26) then
                          some ((⟨(⟨#[]⟩ : ByteArray), (0 : Int), [], (0 : Int), (⟨#[]⟩ : ByteArray), (0 : Int)⟩ : SBook), false)
                        else
                          some ((⟨r2.fWord, r2.fTries, r24, r2.fLast, r25, (w64 (t_0.fCount + 1))⟩ : SBook), true)
                        else none
                else
                  bif (!r7.2) then
                    (spec_l21Put t_0.fThings o_1.fThing).bind fun r27 =>
                    bif (decide ((t_0.fChain.size + r0.1.size) ≤ 9223372036854775807)) then
                    (spec_DigestOf (t_0.fChain ++ r0.1)).bind fun r28 =>
                    (spec_BookOk (⟨r2.fWord, r2.fTries, r27, o_1.fThing.fId, r28, (w64 (t_0.fCount + 1))⟩ : SBook)).bind fun r29 =>
                    bif (!r29) then
                      some ((⟨(⟨#[]⟩ : ByteArray), (0 : Int), [], (0 : Int), (⟨#[]⟩ : ByteArray), (0 : Int)⟩ : SBook), false)
                    else
                      some ((⟨r2.fWord, r2.fTries, r27, o_1.fThing.fId, r28, (w64 (t_0.fCount + 1))⟩ : SBook), true)
                    else none
                  else
                    (spec_l21Put t_0.fThings o_1.fThing).bind fun r30 =>
                    bif (decide ((t_0.fChain.size + r0.1.size) ≤ 9223372036854775807)) then
                    (spec_DigestOf (t_0.fChain ++ r0.1)).bind fun r31 =>
                    (spec_BookOk (⟨r2.fWord, r2.fTries, r30, r2.fLast, r31, (w64 (t_0.fCount + 1))⟩ : SBook)).bind fun r32 =>
                    bif (!r32) then
                      some ((⟨(⟨#[]⟩ : ByteArray), (0 : Int), [], (0 : Int), (⟨#[]⟩ : ByteArray), (0 : Int)⟩ : SBook), false)
                    else
                      some ((⟨r2.fWord, r2.fTries, r30, r2.fLast, r31, (w64 (t_0.fCount + 1))⟩ : SBook), true)
                    else none
            else
              bif (o_1.fKind == 4) then
                (spec_ThingOf t_0 o_1.fNum).bind fun r33 =>
                bif (!r33.2) then
                  some ((⟨(⟨#[]⟩ : ByteArray), (0 : Int), [], (0 : Int), (⟨#[]⟩ : ByteArray), (0 : Int)⟩ : SBook), false)
                else
                  k (.c0 r0.1 (0 : Int) t_0 o_1 (⟨#[]⟩ : ByteArray) (0 : Int) (0 : Int) (⟨#[]⟩ : ByteArray) (0 : Int) r2.fWord r2.fTries r2.fLast r2.fChain r2.fCount [] [] r2.fThings)
              else
                bif (decide ((t_0.fChain.size + r0.1.size) ≤ 9223372036854775807)) then
                (spec_DigestOf (t_0.fChain ++ r0.1)).bind fun r34 =>
                (spec_BookOk (⟨r2.fWord, r2.fTries, r2.fThings, r2.fLast, r34, (w64 (t_0.fCount + 1))⟩ : SBook)).bind fun r35 =>
                bif (!r35) then
                  some ((⟨(⟨#[]⟩ : ByteArray), (0 : Int), [], (0 : Int), (⟨#[]⟩ : ByteArray), (0 : Int)⟩ : SBook), false)
                else
                  some ((⟨r2.fWord, r2.fTries, r2.fThings, r2.fLast, r34, (w64 (t_0.fCount + 1))⟩ : SBook), true)
                else none
noncomputable def B_spec_Enter (spec_RecText : SRec → Option (ByteArray × Bool)) (spec_BookOk : SBook → Option Bool) (spec_l21Copy : SBook → Option SBook) (spec_ThingOf : SBook → Int → Option (SThing × Bool)) (spec_l21Grown : SThing → SThing → Option Bool) (spec_l21Put : (List SThing) → SThing → Option (List SThing)) (spec_DigestOf : ByteArray → Option ByteArray) (k : St_spec_Enter → Option (SBook × Bool)) : St_spec_Enter → Option (SBook × Bool)
  | .c0 y_6 v_14 A_2 r_3 r_4c0 r_4c1 r_4c3 r_4c4 r_4c5 v_8c0 v_8c1 v_8c3 v_8c4 v_8c5 v_13 r_4r2 v_8r2 =>
    bif (decide (v_14 < (A_2.fThings.length : Int))) then
      bif ((decide (0 ≤ v_14)) && (decide (v_14 < (A_2.fThings.length : Int)))) then
      bif ((A_2.fThings.getD v_14.toNat (⟨(0 : Int), (0 : Int), false, false, false, false, (⟨#[]⟩ : ByteArray), (0 : Int)⟩ : SThing)).fId != r_3.fNum) then
        bif ((decide (0 ≤ v_14)) && (decide (v_14 < (A_2.fThings.length : Int)))) then
        bif (decide (((v_13.length + 1) * 48) ≤ 140737488355328)) then
        k (.c0 y_6 (w64 (v_14 + 1)) A_2 r_3 r_4c0 r_4c1 r_4c3 r_4c4 r_4c5 v_8c0 v_8c1 v_8c3 v_8c4 v_8c5 (v_13 ++ [(A_2.fThings.getD v_14.toNat (⟨(0 : Int), (0 : Int), false, false, false, false, (⟨#[]⟩ : ByteArray), (0 : Int)⟩ : SThing))]) r_4r2 v_8r2)
        else none
        else none
      else
        k (.c0 y_6 (w64 (v_14 + 1)) A_2 r_3 r_4c0 r_4c1 r_4c3 r_4c4 r_4c5 v_8c0 v_8c1 v_8c3 v_8c4 v_8c5 v_13 r_4r2 v_8r2)
      else none
    else
      bif (decide ((A_2.fChain.size + y_6.size) ≤ 9223372036854775807)) then
      (spec_DigestOf (A_2.fChain ++ y_6)).bind fun r0 =>
      (spec_BookOk (⟨v_8c0, v_8c1, v_13, v_8c3, r0, (w64 (A_2.fCount + 1))⟩ : SBook)).bind fun r1 =>
      bif (!r1) then
        some ((⟨(⟨#[]⟩ : ByteArray), (0 : Int), [], (0 : Int), (⟨#[]⟩ : ByteArray), (0 : Int)⟩ : SBook), false)
      else
        some ((⟨v_8c0, v_8c1, v_13, v_8c3, r0, (w64 (A_2.fCount + 1))⟩ : SBook), true)
      else none
noncomputable def L_spec_Enter : Nat → St_spec_Enter → Option (SBook × Bool)
  | 0, _ => none
  | m + 1, s => B_spec_Enter spec_RecText spec_BookOk spec_l21Copy spec_ThingOf spec_l21Grown spec_l21Put spec_DigestOf (L_spec_Enter m) s
noncomputable def spec_Enter (t_0 : SBook) (o_1 : SRec) : Option (SBook × Bool) := E_spec_Enter spec_RecText spec_BookOk spec_l21Copy spec_ThingOf spec_l21Grown spec_l21Put spec_DigestOf (L_spec_Enter gas) t_0 o_1
theorem e_spec_Enter (spec_RecText : SRec → Option (ByteArray × Bool)) (spec_BookOk : SBook → Option Bool) (spec_l21Copy : SBook → Option SBook) (spec_ThingOf : SBook → Int → Option (SThing × Bool)) (spec_l21Grown : SThing → SThing → Option Bool) (spec_l21Put : (List SThing) → SThing → Option (List SThing)) (spec_DigestOf : ByteArray → Option ByteArray) : EntryIs ctx PP 29 [] [(59, H_spec_RecText spec_RecText), (74, H_spec_BookOk spec_BookOk), (75, H_spec_l21Copy spec_l21Copy), (69, H_spec_ThingOf spec_ThingOf), (76, H_spec_l21Grown spec_l21Grown), (77, H_spec_l21Put spec_l21Put), (78, H_spec_DigestOf spec_DigestOf)] cv48 cv49 at_spec_Enter (fun k a => E_spec_Enter spec_RecText spec_BookOk spec_l21Copy spec_ThingOf spec_l21Grown spec_l21Put spec_DigestOf k a.1 a.2) := fun stop a => by kernel_rfl
theorem b_spec_Enter (spec_RecText : SRec → Option (ByteArray × Bool)) (spec_BookOk : SBook → Option Bool) (spec_l21Copy : SBook → Option SBook) (spec_ThingOf : SBook → Int → Option (SThing × Bool)) (spec_l21Grown : SThing → SThing → Option Bool) (spec_l21Put : (List SThing) → SThing → Option (List SThing)) (spec_DigestOf : ByteArray → Option ByteArray) : CutIs ctx PP 29 Tryd.f29 [] [(59, H_spec_RecText spec_RecText), (74, H_spec_BookOk spec_BookOk), (75, H_spec_l21Copy spec_l21Copy), (69, H_spec_ThingOf spec_ThingOf), (76, H_spec_l21Grown spec_l21Grown), (77, H_spec_l21Put spec_l21Put), (78, H_spec_DigestOf spec_DigestOf)] cv49 at_spec_Enter (B_spec_Enter spec_RecText spec_BookOk spec_l21Copy spec_ThingOf spec_l21Grown spec_l21Put spec_DigestOf) := fun stop s => by cases s <;> kernel_rfl
theorem i_spec_Enter : ∀ s s', at_spec_Enter s = at_spec_Enter s' → s = s' := by
  intro s s' h
  cases s with
  | c0 v0 v1 v2 v3 v4 v5 v6 v7 v8 v9 v10 v11 v12 v13 v14 v15 v16 => cases s' with
    | c0 w0 w1 w2 w3 w4 w5 w6 w7 w8 w9 w10 w11 w12 w13 w14 w15 w16 => obtain ⟨_, _, _, _, _, _⟩ := v2; obtain ⟨_, _, _, _, _, _⟩ := w2; obtain ⟨_, _, _, ⟨_, _, _, _, _, _, _, _⟩⟩ := v3; obtain ⟨_, _, _, ⟨_, _, _, _, _, _, _, _⟩⟩ := w3; cases h; rfl
theorem ok_spec_Enter : Tells ctx PP 29 cv48 cv49 (fun a => spec_Enter a.1 a.2) := fn_ok (hl_cons h_spec_RecText (hl_cons h_spec_BookOk (hl_cons h_spec_l21Copy (hl_cons h_spec_ThingOf (hl_cons h_spec_l21Grown (hl_cons h_spec_l21Put (hl_cons h_spec_DigestOf hl_nil))))))) Tryd.func29 i_spec_Enter (fun _ => rfl) (fun _ _ => rfl) (b_spec_Enter spec_RecText spec_BookOk spec_l21Copy spec_ThingOf spec_l21Grown spec_l21Put spec_DigestOf) (e_spec_Enter spec_RecText spec_BookOk spec_l21Copy spec_ThingOf spec_l21Grown spec_l21Put spec_DigestOf) gas
noncomputable def H_spec_Enter {γ : Type} (F : SBook → SRec → Option (SBook × Bool)) : Hd ctx γ := hdl cv48.dec (fun a => F a.1 a.2) cv49.enc
theorem h_spec_Enter {γ : Type} : HdOk (γ := γ) PP 29 (H_spec_Enter spec_Enter) := hd_ok ok_spec_Enter
noncomputable def todo_impl_varText_0 : List Go.Item := [.code (cAt (bodyOf Tryd.f114) [1, 1, 0, 0, 0, 0, 0]), .code (cAt (bodyOf Tryd.f114) [1, 1, 0, 0, 0, 0, 1]), .code (cAt (bodyOf Tryd.f114) [1, 1, 0, 0, 0, 1]), .inLoop (cAt (bodyOf Tryd.f114) [1, 1, 0, 0, 0]), .inBlock 0, .code (cAt (bodyOf Tryd.f114) [1, 1, 1])]
inductive St_impl_varText where
  | c0 (n_0 : Int) (out_3 : (List Int))
noncomputable def at_impl_varText : St_impl_varText → LI
  | .c0 n_0 out_3 => (todo_impl_varText_0, [(0, [.one (.int .i64 n_0)]), (3, [.one (.own 240)])], [(240, .sl 5 out_3)])
noncomputable def E_impl_varText  (k : St_impl_varText → Option ByteArray) (n_0 : Int) : Option ByteArray :=
  k (.c0 n_0 [])
noncomputable def B_impl_varText  (k : St_impl_varText → Option ByteArray) : St_impl_varText → Option ByteArray
  | .c0 n_0 out_3 =>
    bif (decide (n_0 > 127)) then
      bif (decide (((out_3.length + 1) * 1) ≤ 140737488355328)) then
      k (.c0 (w64 (n_0.tdiv 128)) (out_3 ++ [(w8 (w64 (128 + (n_0.tmod 128))))]))
      else none
    else
      bif (decide (((out_3.length + 1) * 1) ≤ 140737488355328)) then
      some (ofBytes (out_3 ++ [(w8 n_0)]))
      else none
noncomputable def L_impl_varText : Nat → St_impl_varText → Option ByteArray
  | 0, _ => none
  | m + 1, s => B_impl_varText  (L_impl_varText m) s
noncomputable def impl_varText (n_0 : Int) : Option ByteArray := E_impl_varText  (L_impl_varText gas) n_0
theorem e_impl_varText  : EntryIs ctx PP 114 [] [] cv0 cv1 at_impl_varText (fun k a => E_impl_varText  k a) := fun stop a => by kernel_rfl
theorem b_impl_varText  : CutIs ctx PP 114 Tryd.f114 [] [] cv1 at_impl_varText (B_impl_varText ) := fun stop s => by cases s <;> kernel_rfl
theorem i_impl_varText : ∀ s s', at_impl_varText s = at_impl_varText s' → s = s' := by
  intro s s' h
  cases s with
  | c0 v0 v1 => cases s' with
    | c0 w0 w1 => cases h; rfl
theorem ok_impl_varText : Tells ctx PP 114 cv0 cv1 (fun a => impl_varText a) := fn_ok hl_nil Tryd.func114 i_impl_varText (fun _ => rfl) (fun _ _ => rfl) (b_impl_varText ) (e_impl_varText ) gas
noncomputable def H_impl_varText {γ : Type} (F : Int → Option ByteArray) : Hd ctx γ := hdl cv0.dec (fun a => F a) cv1.enc
theorem h_impl_varText {γ : Type} : HdOk (γ := γ) PP 114 (H_impl_varText impl_varText) := hd_ok ok_impl_varText
noncomputable def E_impl_in  (n_0 : Int) (low_1 : Int) (high_2 : Int) : Option Bool :=
  bif (decide (n_0 ≥ low_1)) then
    some (decide (n_0 ≤ high_2))
  else
    some false
noncomputable def impl_in (n_0 : Int) (low_1 : Int) (high_2 : Int) : Option Bool := E_impl_in  n_0 low_1 high_2
theorem e_impl_in  : EntryIs0 ctx PP 64 [] [] cv2 cv3 (fun a => E_impl_in  a.1 a.2.1 a.2.2) := fun a => by kernel_rfl
theorem ok_impl_in : Tells ctx PP 64 cv2 cv3 (fun a => impl_in a.1 a.2.1 a.2.2) := fn_ok0 hl_nil Tryd.func64 (e_impl_in )
noncomputable def H_impl_in {γ : Type} (F : Int → Int → Int → Option Bool) : Hd ctx γ := hdl cv2.dec (fun a => F a.1 a.2.1 a.2.2) cv3.enc
theorem h_impl_in {γ : Type} : HdOk (γ := γ) PP 64 (H_impl_in impl_in) := hd_ok ok_impl_in
noncomputable def E_impl_ThingOk (impl_in : Int → Int → Int → Option Bool) (x_0 : SThing) : Option Bool :=
  (impl_in x_0.fId (1 : Int) (1000 : Int)).bind fun r0 =>
  bif (!r0) then
    some false
  else
    (impl_in x_0.fNext (0 : Int) (16 : Int)).bind fun r1 =>
    bif (!r1) then
      some false
    else
      bif (x_0.fKind != 2) then
        bif (x_0.fNext != 0) then
          some false
        else
          bif x_0.fSigns then
            some false
          else
            bif (x_0.fKind != 1) then
              bif x_0.fWraps then
                some false
              else
                bif (x_0.fKind == 1) then
                  bif (x_0.fKind == 1) then
                    some ((x_0.fValue.size : Int) == 32)
                  else
                    bif (x_0.fKind == 3) then
                      some (decide ((x_0.fValue.size : Int) ≤ 100))
                    else
                      some false
                else
                  bif (x_0.fKind == 2) then
                    some ((x_0.fValue.size : Int) == 32)
                  else
                    bif (x_0.fKind == 3) then
                      some (decide ((x_0.fValue.size : Int) ≤ 100))
                    else
                      some false
            else
              bif (x_0.fKind == 1) then
                bif (x_0.fKind == 1) then
                  some ((x_0.fValue.size : Int) == 32)
                else
                  bif (x_0.fKind == 3) then
                    some (decide ((x_0.fValue.size : Int) ≤ 100))
                  else
                    some false
              else
                bif (x_0.fKind == 2) then
                  some ((x_0.fValue.size : Int) == 32)
                else
                  bif (x_0.fKind == 3) then
                    some (decide ((x_0.fValue.size : Int) ≤ 100))
                  else
                    some false
      else
        bif (x_0.fKind != 1) then
          bif x_0.fWraps then
            some false
          else
            bif (x_0.fKind == 1) then
              bif (x_0.fKind == 1) then
                some ((x_0.fValue.size : Int) == 32)
              else
                bif (x_0.fKind == 3) then
                  some (decide ((x_0.fValue.size : Int) ≤ 100))
                else
                  some false
            else
              bif (x_0.fKind == 2) then
                some ((x_0.fValue.size : Int) == 32)
              else
                bif (x_0.fKind == 3) then
                  some (decide ((x_0.fValue.size : Int) ≤ 100))
                else
                  some false
        else
          bif (x_0.fKind == 1) then
            bif (x_0.fKind == 1) then
              some ((x_0.fValue.size : Int) == 32)
            else
              bif (x_0.fKind == 3) then
                some (decide ((x_0.fValue.size : Int) ≤ 100))
              else
                some false
          else
            bif (x_0.fKind == 2) then
              some ((x_0.fValue.size : Int) == 32)
            else
              bif (x_0.fKind == 3) then
                some (decide ((x_0.fValue.size : Int) ≤ 100))
              else
                some false
noncomputable def impl_ThingOk (x_0 : SThing) : Option Bool := E_impl_ThingOk impl_in x_0
theorem e_impl_ThingOk (impl_in : Int → Int → Int → Option Bool) : EntryIs0 ctx PP 131 [] [(64, H_impl_in impl_in)] cv26 cv3 (fun a => E_impl_ThingOk impl_in a) := fun a => by kernel_rfl
theorem ok_impl_ThingOk : Tells ctx PP 131 cv26 cv3 (fun a => impl_ThingOk a) := fn_ok0 (hl_cons h_impl_in hl_nil) Tryd.func131 (e_impl_ThingOk impl_in)
noncomputable def H_impl_ThingOk {γ : Type} (F : SThing → Option Bool) : Hd ctx γ := hdl cv26.dec (fun a => F a) cv3.enc
theorem h_impl_ThingOk {γ : Type} : HdOk (γ := γ) PP 131 (H_impl_ThingOk impl_ThingOk) := hd_ok ok_impl_ThingOk
noncomputable def E_impl_oneByte  (n_0 : Int) : Option ByteArray :=
  some (ofBytes [(w8 n_0)])
noncomputable def impl_oneByte (n_0 : Int) : Option ByteArray := E_impl_oneByte  n_0
theorem e_impl_oneByte  : EntryIs0 ctx PP 122 [] [] cv0 cv1 (fun a => E_impl_oneByte  a) := fun a => by kernel_rfl
theorem ok_impl_oneByte : Tells ctx PP 122 cv0 cv1 (fun a => impl_oneByte a) := fn_ok0 hl_nil Tryd.func122 (e_impl_oneByte )
noncomputable def H_impl_oneByte {γ : Type} (F : Int → Option ByteArray) : Hd ctx γ := hdl cv0.dec (fun a => F a) cv1.enc
theorem h_impl_oneByte {γ : Type} : HdOk (γ := γ) PP 122 (H_impl_oneByte impl_oneByte) := hd_ok ok_impl_oneByte
noncomputable def todo_impl_flags_0 : List Go.Item := [.code (cAt (bodyOf Tryd.f158) [1, 1, 0, 1, 0, 0, 0]), .code (cAt (bodyOf Tryd.f158) [1, 1, 0, 1, 0, 0, 1]), .inLoop (cAt (bodyOf Tryd.f158) [1, 1, 0, 1, 0, 0]), .inBlock 0, .code (cAt (bodyOf Tryd.f158) [1, 1, 1])]
inductive St_impl_flags where
  | c0 (n_3 : Int) (v_15 : Int) (v_16 : Int) (v_14 : (List Bool))
noncomputable def at_impl_flags : St_impl_flags → LI
  | .c0 n_3 v_15 v_16 v_14 => (todo_impl_flags_0, [(3, [.one (.int .i64 n_3)]), (14, [.one (.own 944)]), (15, [.one (.int .i64 v_15)]), (16, [.one (.int .i64 v_16)])], [(944, .sl 4 v_14)])
noncomputable def E_impl_flags  (k : St_impl_flags → Option Int) (x_0 : SThing) : Option Int :=
  k (.c0 (0 : Int) ((4 : Nat) : Int) (0 : Int) [x_0.fHidden, x_0.fFixed, x_0.fSigns, x_0.fWraps])
noncomputable def B_impl_flags  (k : St_impl_flags → Option Int) : St_impl_flags → Option Int
  | .c0 n_3 v_15 v_16 v_14 =>
    bif (decide (v_16 < v_15)) then
      bif ((decide (0 ≤ v_16)) && (decide (v_16 < (v_14.length : Int)))) then
      bif (v_14.getD v_16.toNat false) then
        bif (decide (0 ≤ v_16)) then
        k (.c0 (w64 (((BitVec.toNat ((BitVec.ofInt (IntKind.bits IntKind.i64) n_3) ||| (BitVec.ofInt (IntKind.bits IntKind.i64) (w64 (1 * (2 ^ (Min.min v_16.toNat (IntKind.bits IntKind.i64)))))))) : Nat) : Int)) v_15 (w64 (v_16 + 1)) v_14)
        else none
      else
        k (.c0 n_3 v_15 (w64 (v_16 + 1)) v_14)
      else none
    else
      some n_3
noncomputable def L_impl_flags : Nat → St_impl_flags → Option Int
  | 0, _ => none
  | m + 1, s => B_impl_flags  (L_impl_flags m) s
noncomputable def impl_flags (x_0 : SThing) : Option Int := E_impl_flags  (L_impl_flags gas) x_0
theorem e_impl_flags  : EntryIs ctx PP 158 [] [] cv26 cv0 at_impl_flags (fun k a => E_impl_flags  k a) := fun stop a => by kernel_rfl
theorem b_impl_flags  : CutIs ctx PP 158 Tryd.f158 [] [] cv0 at_impl_flags (B_impl_flags ) := fun stop s => by cases s <;> kernel_rfl
theorem i_impl_flags : ∀ s s', at_impl_flags s = at_impl_flags s' → s = s' := by
  intro s s' h
  cases s with
  | c0 v0 v1 v2 v3 => cases s' with
    | c0 w0 w1 w2 w3 => cases h; rfl
theorem ok_impl_flags : Tells ctx PP 158 cv26 cv0 (fun a => impl_flags a) := fn_ok hl_nil Tryd.func158 i_impl_flags (fun _ => rfl) (fun _ _ => rfl) (b_impl_flags ) (e_impl_flags ) gas
noncomputable def H_impl_flags {γ : Type} (F : SThing → Option Int) : Hd ctx γ := hdl cv26.dec (fun a => F a) cv0.enc
theorem h_impl_flags {γ : Type} : HdOk (γ := γ) PP 158 (H_impl_flags impl_flags) := hd_ok ok_impl_flags
noncomputable def E_impl_shortText (impl_varText : Int → Option ByteArray) (s_0 : ByteArray) : Option ByteArray :=
  (impl_varText (s_0.size : Int)).bind fun r0 =>
  bif (decide ((r0.size + s_0.size) ≤ 9223372036854775807)) then
  some (r0 ++ s_0)
  else none
noncomputable def impl_shortText (s_0 : ByteArray) : Option ByteArray := E_impl_shortText impl_varText s_0
theorem e_impl_shortText (impl_varText : Int → Option ByteArray) : EntryIs0 ctx PP 159 [] [(114, H_impl_varText impl_varText)] cv1 cv1 (fun a => E_impl_shortText impl_varText a) := fun a => by kernel_rfl
theorem ok_impl_shortText : Tells ctx PP 159 cv1 cv1 (fun a => impl_shortText a) := fn_ok0 (hl_cons h_impl_varText hl_nil) Tryd.func159 (e_impl_shortText impl_varText)
noncomputable def H_impl_shortText {γ : Type} (F : ByteArray → Option ByteArray) : Hd ctx γ := hdl cv1.dec (fun a => F a) cv1.enc
theorem h_impl_shortText {γ : Type} : HdOk (γ := γ) PP 159 (H_impl_shortText impl_shortText) := hd_ok ok_impl_shortText
noncomputable def E_impl_ThingText (impl_ThingOk : SThing → Option Bool) (impl_varText : Int → Option ByteArray) (impl_oneByte : Int → Option ByteArray) (impl_flags : SThing → Option Int) (impl_shortText : ByteArray → Option ByteArray) (x_0 : SThing) : Option (ByteArray × Bool) :=
  (impl_ThingOk x_0).bind fun r0 =>
  bif (!r0) then
    some ((⟨#[]⟩ : ByteArray), false)
  else
    (impl_varText x_0.fId).bind fun r1 =>
    (impl_oneByte x_0.fKind).bind fun r2 =>
    bif (decide ((r1.size + r2.size) ≤ 9223372036854775807)) then
    (impl_flags x_0).bind fun r3 =>
    (impl_oneByte r3).bind fun r4 =>
    bif (decide (((r1 ++ r2).size + r4.size) ≤ 9223372036854775807)) then
    (impl_shortText x_0.fValue).bind fun r5 =>
    bif (decide ((((r1 ++ r2) ++ r4).size + r5.size) ≤ 9223372036854775807)) then
    (impl_varText x_0.fNext).bind fun r6 =>
    bif (decide (((((r1 ++ r2) ++ r4) ++ r5).size + r6.size) ≤ 9223372036854775807)) then
    some (((((r1 ++ r2) ++ r4) ++ r5) ++ r6), true)
    else none
    else none
    else none
    else none
noncomputable def impl_ThingText (x_0 : SThing) : Option (ByteArray × Bool) := E_impl_ThingText impl_ThingOk impl_varText impl_oneByte impl_flags impl_shortText x_0
theorem e_impl_ThingText (impl_ThingOk : SThing → Option Bool) (impl_varText : Int → Option ByteArray) (impl_oneByte : Int → Option ByteArray) (impl_flags : SThing → Option Int) (impl_shortText : ByteArray → Option ByteArray) : EntryIs0 ctx PP 121 [] [(131, H_impl_ThingOk impl_ThingOk), (114, H_impl_varText impl_varText), (122, H_impl_oneByte impl_oneByte), (158, H_impl_flags impl_flags), (159, H_impl_shortText impl_shortText)] cv26 cv17 (fun a => E_impl_ThingText impl_ThingOk impl_varText impl_oneByte impl_flags impl_shortText a) := fun a => by kernel_rfl
theorem ok_impl_ThingText : Tells ctx PP 121 cv26 cv17 (fun a => impl_ThingText a) := fn_ok0 (hl_cons h_impl_ThingOk (hl_cons h_impl_varText (hl_cons h_impl_oneByte (hl_cons h_impl_flags (hl_cons h_impl_shortText hl_nil))))) Tryd.func121 (e_impl_ThingText impl_ThingOk impl_varText impl_oneByte impl_flags impl_shortText)
noncomputable def H_impl_ThingText {γ : Type} (F : SThing → Option (ByteArray × Bool)) : Hd ctx γ := hdl cv26.dec (fun a => F a) cv17.enc
theorem h_impl_ThingText {γ : Type} : HdOk (γ := γ) PP 121 (H_impl_ThingText impl_ThingText) := hd_ok ok_impl_ThingText
noncomputable def E_impl_RecText (impl_varText : Int → Option ByteArray) (impl_in : Int → Int → Int → Option Bool) (impl_ThingText : SThing → Option (ByteArray × Bool)) (impl_oneByte : Int → Option ByteArray) (r_0 : SRec) : Option (ByteArray × Bool) :=
  bif (r_0.fKind == 1) then
    bif (!((r_0.fText.size : Int) == 32)) then
      some ((⟨#[]⟩ : ByteArray), false)
    else
      bif (!((r_0.fKind == r_0.fKind) && (((ByteArray.toList r_0.fText) == (ByteArray.toList r_0.fText)) && ((r_0.fNum == 0) && (((r_0.fThing.fId == 0) && ((r_0.fThing.fKind == 0) && ((r_0.fThing.fHidden == false) && ((r_0.fThing.fFixed == false) && ((r_0.fThing.fSigns == false) && ((r_0.fThing.fWraps == false) && (((ByteArray.toList r_0.fThing.fValue) == (ByteArray.toList (⟨#[]⟩ : ByteArray))) && ((r_0.fThing.fNext == 0) && true)))))))) && true))))) then
        some ((⟨#[]⟩ : ByteArray), false)
      else
        (impl_oneByte r_0.fKind).bind fun r0 =>
        bif (decide ((r0.size + r_0.fText.size) ≤ 9223372036854775807)) then
        some ((r0 ++ r_0.fText), true)
        else none
  else
    bif (r_0.fKind == 2) then
      (impl_varText r_0.fNum).bind fun r1 =>
      (impl_in r_0.fNum (0 : Int) (3 : Int)).bind fun r2 =>
      bif (!r2) then
        some ((⟨#[]⟩ : ByteArray), false)
      else
        bif (!((r_0.fKind == r_0.fKind) && (((ByteArray.toList r_0.fText) == (ByteArray.toList (⟨#[]⟩ : ByteArray))) && ((r_0.fNum == r_0.fNum) && (((r_0.fThing.fId == 0) && ((r_0.fThing.fKind == 0) && ((r_0.fThing.fHidden == false) && ((r_0.fThing.fFixed == false) && ((r_0.fThing.fSigns == false) && ((r_0.fThing.fWraps == false) && (((ByteArray.toList r_0.fThing.fValue) == (ByteArray.toList (⟨#[]⟩ : ByteArray))) && ((r_0.fThing.fNext == 0) && true)))))))) && true))))) then
          some ((⟨#[]⟩ : ByteArray), false)
        else
          (impl_oneByte r_0.fKind).bind fun r3 =>
          bif (decide ((r3.size + r1.size) ≤ 9223372036854775807)) then
          some ((r3 ++ r1), true)
          else none
    else
      bif (r_0.fKind == 3) then
        (impl_ThingText r_0.fThing).bind fun r4 =>
        bif (!r4.2) then
          some ((⟨#[]⟩ : ByteArray), false)
        else
          bif (!((r_0.fKind == r_0.fKind) && (((ByteArray.toList r_0.fText) == (ByteArray.toList (⟨#[]⟩ : ByteArray))) && ((r_0.fNum == 0) && (((r_0.fThing.fId == r_0.fThing.fId) && ((r_0.fThing.fKind == r_0.fThing.fKind) && ((r_0.fThing.fHidden == r_0.fThing.fHidden) && ((r_0.fThing.fFixed == r_0.fThing.fFixed) && ((r_0.fThing.fSigns == r_0.fThing.fSigns) && ((r_0.fThing.fWraps == r_0.fThing.fWraps) && (((ByteArray.toList r_0.fThing.fValue) == (ByteArray.toList r_0.fThing.fValue)) && ((r_0.fThing.fNext == r_0.fThing.fNext) && true)))))))) && true))))) then
            some ((⟨#[]⟩ : ByteArray), false)
          else
            (impl_oneByte r_0.fKind).bind fun r5 =>
            bif (decide ((r5.size + r4.1.size) ≤ 9223372036854775807)) then
            some ((r5 ++ r4.1), true)
            else none
      else
        bif (r_0.fKind == 4) then
          (impl_varText r_0.fNum).bind fun r6 =>
          (impl_in r_0.fNum (1 : Int) (1000 : Int)).bind fun r7 =>
          bif (!r7) then
            some ((⟨#[]⟩ : ByteArray), false)
          else
            bif (!((r_0.fKind == r_0.fKind) && (((ByteArray.toList r_0.fText) == (ByteArray.toList (⟨#[]⟩ : ByteArray))) && ((r_0.fNum == r_0.fNum) && (((r_0.fThing.fId == 0) && ((r_0.fThing.fKind == 0) && ((r_0.fThing.fHidden == false) && ((r_0.fThing.fFixed == false) && ((r_0.fThing.fSigns == false) && ((r_0.fThing.fWraps == false) && (((ByteArray.toList r_0.fThing.fValue) == (ByteArray.toList (⟨#[]⟩ : ByteArray))) && ((r_0.fThing.fNext == 0) && true)))))))) && true))))) then
              some ((⟨#[]⟩ : ByteArray), false)
            else
              (impl_oneByte r_0.fKind).bind fun r8 =>
              bif (decide ((r8.size + r6.size) ≤ 9223372036854775807)) then
              some ((r8 ++ r6), true)
              else none
        else
          some ((⟨#[]⟩ : ByteArray), false)
noncomputable def impl_RecText (r_0 : SRec) : Option (ByteArray × Bool) := E_impl_RecText impl_varText impl_in impl_ThingText impl_oneByte r_0
theorem e_impl_RecText (impl_varText : Int → Option ByteArray) (impl_in : Int → Int → Int → Option Bool) (impl_ThingText : SThing → Option (ByteArray × Bool)) (impl_oneByte : Int → Option ByteArray) : EntryIs0 ctx PP 63 [] [(114, H_impl_varText impl_varText), (64, H_impl_in impl_in), (121, H_impl_ThingText impl_ThingText), (122, H_impl_oneByte impl_oneByte)] cv27 cv17 (fun a => E_impl_RecText impl_varText impl_in impl_ThingText impl_oneByte a) := fun a => by kernel_rfl
theorem ok_impl_RecText : Tells ctx PP 63 cv27 cv17 (fun a => impl_RecText a) := fn_ok0 (hl_cons h_impl_varText (hl_cons h_impl_in (hl_cons h_impl_ThingText (hl_cons h_impl_oneByte hl_nil)))) Tryd.func63 (e_impl_RecText impl_varText impl_in impl_ThingText impl_oneByte)
noncomputable def H_impl_RecText {γ : Type} (F : SRec → Option (ByteArray × Bool)) : Hd ctx γ := hdl cv27.dec (fun a => F a) cv17.enc
theorem h_impl_RecText {γ : Type} : HdOk (γ := γ) PP 63 (H_impl_RecText impl_RecText) := hd_ok ok_impl_RecText
noncomputable def todo_impl_BookOk_0 : List Go.Item := [.code (cAt (bodyOf Tryd.f80) [1, 0, 1, 0, 0, 0]), .code (cAt (bodyOf Tryd.f80) [1, 0, 1, 0, 0, 1]), .inLoop (cAt (bodyOf Tryd.f80) [1, 0, 1, 0, 0]), .inBlock 0, .code (cAt (bodyOf Tryd.f80) [1, 1])]
inductive St_impl_BookOk where
  | c0 (v_6 : (List SThing)) (v_7 : Int) (v_8 : Int) (b_1 : SBook)
noncomputable def at_impl_BookOk : St_impl_BookOk → LI
  | .c0 v_6 v_7 v_8 b_1 => (todo_impl_BookOk_0, [(1, [.one (.ptr 64 0)]), (6, [.one (.rsl 33 v_6)]), (7, [.one (.int .i64 v_7)]), (8, [.one (.int .i64 v_8)])], [(64, .var [.str b_1.fWord, .int .i64 b_1.fTries, .rsl 33 b_1.fThings, .int .i64 b_1.fLast, .str b_1.fChain, .int .i64 b_1.fCount])])
noncomputable def E_impl_BookOk (impl_ThingOk : SThing → Option Bool) (impl_in : Int → Int → Int → Option Bool) (k : St_impl_BookOk → Option Bool) (b_0 : SBook) : Option Bool :=
  k (.c0 b_0.fThings (b_0.fThings.length : Int) (0 : Int) b_0)
noncomputable def B_impl_BookOk (impl_ThingOk : SThing → Option Bool) (impl_in : Int → Int → Int → Option Bool) (k : St_impl_BookOk → Option Bool) : St_impl_BookOk → Option Bool
  | .c0 v_6 v_7 v_8 b_1 =>
    bif (decide (v_8 < v_7)) then
      bif ((decide (0 ≤ v_8)) && (decide (v_8 < (v_6.length : Int)))) then
      (impl_ThingOk (v_6.getD v_8.toNat (⟨(0 : Int), (0 : Int), false, false, false, false, (⟨#[]⟩ : ByteArray), (0 : Int)⟩ : SThing))).bind fun r0 =>
      bif (!r0) then
        some false
      else
        bif (decide ((v_6.getD v_8.toNat (⟨(0 : Int), (0 : Int), false, false, false, false, (⟨#[]⟩ : ByteArray), (0 : Int)⟩ : SThing)).fId > b_1.fLast)) then
          some false
        else
          bif (decide (v_8 > 0)) then
            bif ((decide (0 ≤ (w64 (v_8 - 1)))) && (decide ((w64 (v_8 - 1)) < (b_1.fThings.length : Int)))) then
            bif (decide ((b_1.fThings.getD (w64 (v_8 - 1)).toNat (⟨(0 : Int), (0 : Int), false, false, false, false, (⟨#[]⟩ : ByteArray), (0 : Int)⟩ : SThing)).fId ≥ (v_6.getD v_8.toNat (⟨(0 : Int), (0 : Int), false, false, false, false, (⟨#[]⟩ : ByteArray), (0 : Int)⟩ : SThing)).fId)) then
              some false
            else
              k (.c0 v_6 v_7 (w64 (v_8 + 1)) b_1)
            else none
          else
            k (.c0 v_6 v_7 (w64 (v_8 + 1)) b_1)
      else none
    else
      bif ((b_1.fWord.size : Int) == 32) then
        bif ((b_1.fChain.size : Int) == 32) then
          (impl_in b_1.fTries (0 : Int) (3 : Int)).bind fun r1 =>
          bif r1 then
            bif (decide ((b_1.fThings.length : Int) ≤ 8)) then
              (impl_in b_1.fLast (0 : Int) (1000 : Int)).bind fun r2 =>
              bif r2 then
                (impl_in b_1.fCount (0 : Int) (10000 : Int)).bind fun r3 =>
                some r3
              else
                some false
            else
              some false
          else
            some false
        else
          some false
      else
        some false
noncomputable def L_impl_BookOk : Nat → St_impl_BookOk → Option Bool
  | 0, _ => none
  | m + 1, s => B_impl_BookOk impl_ThingOk impl_in (L_impl_BookOk m) s
noncomputable def impl_BookOk (b_0 : SBook) : Option Bool := E_impl_BookOk impl_ThingOk impl_in (L_impl_BookOk gas) b_0
theorem e_impl_BookOk (impl_ThingOk : SThing → Option Bool) (impl_in : Int → Int → Int → Option Bool) : EntryIs ctx PP 80 [] [(131, H_impl_ThingOk impl_ThingOk), (64, H_impl_in impl_in)] cv42 cv3 at_impl_BookOk (fun k a => E_impl_BookOk impl_ThingOk impl_in k a) := fun stop a => by kernel_rfl
theorem b_impl_BookOk (impl_ThingOk : SThing → Option Bool) (impl_in : Int → Int → Int → Option Bool) : CutIs ctx PP 80 Tryd.f80 [] [(131, H_impl_ThingOk impl_ThingOk), (64, H_impl_in impl_in)] cv3 at_impl_BookOk (B_impl_BookOk impl_ThingOk impl_in) := fun stop s => by cases s <;> kernel_rfl
theorem i_impl_BookOk : ∀ s s', at_impl_BookOk s = at_impl_BookOk s' → s = s' := by
  intro s s' h
  cases s with
  | c0 v0 v1 v2 v3 => cases s' with
    | c0 w0 w1 w2 w3 => obtain ⟨_, _, _, _, _, _⟩ := v3; obtain ⟨_, _, _, _, _, _⟩ := w3; cases h; rfl
theorem ok_impl_BookOk : Tells ctx PP 80 cv42 cv3 (fun a => impl_BookOk a) := fn_ok (hl_cons h_impl_ThingOk (hl_cons h_impl_in hl_nil)) Tryd.func80 i_impl_BookOk (fun _ => rfl) (fun _ _ => rfl) (b_impl_BookOk impl_ThingOk impl_in) (e_impl_BookOk impl_ThingOk impl_in) gas
noncomputable def H_impl_BookOk {γ : Type} (F : SBook → Option Bool) : Hd ctx γ := hdl cv42.dec (fun a => F a) cv3.enc
theorem h_impl_BookOk {γ : Type} : HdOk (γ := γ) PP 80 (H_impl_BookOk impl_BookOk) := hd_ok ok_impl_BookOk
noncomputable def E_impl_copyBook  (b_0 : SBook) : Option SBook :=
  bif (decide ((b_0.fThings.length * 48) ≤ 140737488355328)) then
  some b_0
  else none
noncomputable def impl_copyBook (b_0 : SBook) : Option SBook := E_impl_copyBook  b_0
theorem e_impl_copyBook  : EntryIs0 ctx PP 81 [] [] cv42 cv41 (fun a => E_impl_copyBook  a) := fun a => by kernel_rfl
theorem ok_impl_copyBook : Tells ctx PP 81 cv42 cv41 (fun a => impl_copyBook a) := fn_ok0 hl_nil Tryd.func81 (e_impl_copyBook )
noncomputable def H_impl_copyBook {γ : Type} (F : SBook → Option SBook) : Hd ctx γ := hdl cv42.dec (fun a => F a) cv41.enc
theorem h_impl_copyBook {γ : Type} : HdOk (γ := γ) PP 81 (H_impl_copyBook impl_copyBook) := hd_ok ok_impl_copyBook
noncomputable def todo_impl_thingAt_0 : List Go.Item := [.code (cAt (bodyOf Tryd.f83) [1, 0, 1, 0, 0, 0]), .code (cAt (bodyOf Tryd.f83) [1, 0, 1, 0, 0, 1]), .inLoop (cAt (bodyOf Tryd.f83) [1, 0, 1, 0, 0]), .inBlock 0, .code (cAt (bodyOf Tryd.f83) [1, 1])]
inductive St_impl_thingAt where
  | c0 (id_1 : Int) (v_8 : (List SThing)) (v_9 : Int) (v_10 : Int)
noncomputable def at_impl_thingAt : St_impl_thingAt → LI
  | .c0 id_1 v_8 v_9 v_10 => (todo_impl_thingAt_0, [(1, [.one (.int .i64 id_1)]), (8, [.one (.rsl 33 v_8)]), (9, [.one (.int .i64 v_9)]), (10, [.one (.int .i64 v_10)])], [])
noncomputable def E_impl_thingAt  (k : St_impl_thingAt → Option Int) (b_0 : SBook) (id_1 : Int) : Option Int :=
  k (.c0 id_1 b_0.fThings (b_0.fThings.length : Int) (0 : Int))
noncomputable def B_impl_thingAt  (k : St_impl_thingAt → Option Int) : St_impl_thingAt → Option Int
  | .c0 id_1 v_8 v_9 v_10 =>
    bif (decide (v_10 < v_9)) then
      bif ((decide (0 ≤ v_10)) && (decide (v_10 < (v_8.length : Int)))) then
      bif ((v_8.getD v_10.toNat (⟨(0 : Int), (0 : Int), false, false, false, false, (⟨#[]⟩ : ByteArray), (0 : Int)⟩ : SThing)).fId == id_1) then
        some v_10
      else
        k (.c0 id_1 v_8 v_9 (w64 (v_10 + 1)))
      else none
    else
      some (-(1 : Int))
noncomputable def L_impl_thingAt : Nat → St_impl_thingAt → Option Int
  | 0, _ => none
  | m + 1, s => B_impl_thingAt  (L_impl_thingAt m) s
noncomputable def impl_thingAt (b_0 : SBook) (id_1 : Int) : Option Int := E_impl_thingAt  (L_impl_thingAt gas) b_0 id_1
theorem e_impl_thingAt  : EntryIs ctx PP 83 [] [] cv43 cv0 at_impl_thingAt (fun k a => E_impl_thingAt  k a.1 a.2) := fun stop a => by kernel_rfl
theorem b_impl_thingAt  : CutIs ctx PP 83 Tryd.f83 [] [] cv0 at_impl_thingAt (B_impl_thingAt ) := fun stop s => by cases s <;> kernel_rfl
theorem i_impl_thingAt : ∀ s s', at_impl_thingAt s = at_impl_thingAt s' → s = s' := by
  intro s s' h
  cases s with
  | c0 v0 v1 v2 v3 => cases s' with
    | c0 w0 w1 w2 w3 => cases h; rfl
theorem ok_impl_thingAt : Tells ctx PP 83 cv43 cv0 (fun a => impl_thingAt a.1 a.2) := fn_ok hl_nil Tryd.func83 i_impl_thingAt (fun _ => rfl) (fun _ _ => rfl) (b_impl_thingAt ) (e_impl_thingAt ) gas
noncomputable def H_impl_thingAt {γ : Type} (F : SBook → Int → Option Int) : Hd ctx γ := hdl cv43.dec (fun a => F a.1 a.2) cv0.enc
theorem h_impl_thingAt {γ : Type} : HdOk (γ := γ) PP 83 (H_impl_thingAt impl_thingAt) := hd_ok ok_impl_thingAt
noncomputable def E_impl_follows  (x_0 : SThing) (y_1 : SThing) : Option Bool :=
  bif (y_1.fKind == x_0.fKind) then
    bif ((ByteArray.toList y_1.fValue) == (ByteArray.toList x_0.fValue)) then
      bif (y_1.fSigns == x_0.fSigns) then
        bif (y_1.fWraps == x_0.fWraps) then
          bif (decide (y_1.fNext ≥ x_0.fNext)) then
            bif y_1.fHidden then
              bif y_1.fFixed then
                some true
              else
                some (!x_0.fFixed)
            else
              bif (!x_0.fHidden) then
                bif y_1.fFixed then
                  some true
                else
                  some (!x_0.fFixed)
              else
                some false
          else
            some false
        else
          some false
      else
        some false
    else
      some false
  else
    some false
noncomputable def impl_follows (x_0 : SThing) (y_1 : SThing) : Option Bool := E_impl_follows  x_0 y_1
theorem e_impl_follows  : EntryIs0 ctx PP 132 [] [] cv45 cv3 (fun a => E_impl_follows  a.1 a.2) := fun a => by kernel_rfl
theorem ok_impl_follows : Tells ctx PP 132 cv45 cv3 (fun a => impl_follows a.1 a.2) := fn_ok0 hl_nil Tryd.func132 (e_impl_follows )
noncomputable def H_impl_follows {γ : Type} (F : SThing → SThing → Option Bool) : Hd ctx γ := hdl cv45.dec (fun a => F a.1 a.2) cv3.enc
theorem h_impl_follows {γ : Type} : HdOk (γ := γ) PP 132 (H_impl_follows impl_follows) := hd_ok ok_impl_follows
noncomputable def E_impl_Book_thing (impl_thingAt : SBook → Int → Option Int) (impl_follows : SThing → SThing → Option Bool) (b_0 : SBook) (x_1 : SThing) : Option (Bool × SBook) :=
  (impl_thingAt b_0 x_1.fId).bind fun r0 =>
  bif (decide (r0 ≥ 0)) then
    bif ((decide (0 ≤ r0)) && (decide (r0 < (b_0.fThings.length : Int)))) then
    (impl_follows (b_0.fThings.getD r0.toNat (⟨(0 : Int), (0 : Int), false, false, false, false, (⟨#[]⟩ : ByteArray), (0 : Int)⟩ : SThing)) x_1).bind fun r1 =>
    bif (!r1) then
      some (false, b_0)
    else
      bif ((decide (0 ≤ r0)) && (decide (r0 < (b_0.fThings.length : Int)))) then
      some (true, (⟨b_0.fWord, b_0.fTries, (b_0.fThings.set r0.toNat x_1), b_0.fLast, b_0.fChain, b_0.fCount⟩ : SBook))
      else none
    else none
  else
    bif (x_1.fId != (w64 (b_0.fLast + 1))) then
      some (false, b_0)
    else
      bif (decide ((b_0.fThings.length : Int) ≥ 8)) then
        some (false, b_0)
      else
        bif (decide (((b_0.fThings.length + 1) * 48) ≤ 140737488355328)) then
        some (true, (⟨b_0.fWord, b_0.fTries, (b_0.fThings ++ [x_1]), x_1.fId, b_0.fChain, b_0.fCount⟩ : SBook))
        else none
noncomputable def impl_Book_thing (b_0 : SBook) (x_1 : SThing) : Option (Bool × SBook) := E_impl_Book_thing impl_thingAt impl_follows b_0 x_1
theorem e_impl_Book_thing (impl_thingAt : SBook → Int → Option Int) (impl_follows : SThing → SThing → Option Bool) : EntryIs0 ctx PP 82 [0] [(83, H_impl_thingAt impl_thingAt), (132, H_impl_follows impl_follows)] cv51 cv52 (fun a => E_impl_Book_thing impl_thingAt impl_follows a.1 a.2) := fun a => by kernel_rfl
theorem ok_impl_Book_thing : Tells ctx PP 82 cv51 cv52 (fun a => impl_Book_thing a.1 a.2) := fn_ok0 (hl_cons h_impl_thingAt (hl_cons h_impl_follows hl_nil)) Tryd.func82 (e_impl_Book_thing impl_thingAt impl_follows)
noncomputable def H_impl_Book_thing {γ : Type} (F : SBook → SThing → Option (Bool × SBook)) : Hd ctx γ := hdl cv51.dec (fun a => F a.1 a.2) cv52.enc
theorem h_impl_Book_thing {γ : Type} : HdOk (γ := γ) PP 82 (H_impl_Book_thing impl_Book_thing) := hd_ok ok_impl_Book_thing
noncomputable def E_impl_firstState   : Option (List Int) :=
  some [(1779033703 : Int), (3144134277 : Int), (1013904242 : Int), (2773480762 : Int), (1359893119 : Int), (2600822924 : Int), (528734635 : Int), (1541459225 : Int)]
noncomputable def impl_firstState  : Option (List Int) := E_impl_firstState  
theorem e_impl_firstState  : EntryIs0 ctx PP 134 [] [] cv4 cv19 (fun _ => E_impl_firstState  ) := fun a => by kernel_rfl
theorem ok_impl_firstState : Tells ctx PP 134 cv4 cv19 (fun _ => impl_firstState ) := fn_ok0 hl_nil Tryd.func134 (e_impl_firstState )
noncomputable def H_impl_firstState {γ : Type} (F : Option (List Int)) : Hd ctx γ := hdl cv4.dec (fun _ => F ) cv19.enc
theorem h_impl_firstState {γ : Type} : HdOk (γ := γ) PP 134 (H_impl_firstState impl_firstState) := hd_ok ok_impl_firstState
noncomputable def E_impl_zeros  (n_0 : Int) : Option ByteArray :=
  bif ((((decide (0 ≤ n_0)) && (decide (n_0 ≤ n_0))) && (decide (n_0 ≤ 9223372036854775807))) && (decide ((n_0.toNat * 1) ≤ 140737488355328))) then
  some (ofBytes (List.replicate n_0.toNat (0 : Int)))
  else none
noncomputable def impl_zeros (n_0 : Int) : Option ByteArray := E_impl_zeros  n_0
theorem e_impl_zeros  : EntryIs0 ctx PP 115 [] [] cv0 cv1 (fun a => E_impl_zeros  a) := fun a => by kernel_rfl
theorem ok_impl_zeros : Tells ctx PP 115 cv0 cv1 (fun a => impl_zeros a) := fn_ok0 hl_nil Tryd.func115 (e_impl_zeros )
noncomputable def H_impl_zeros {γ : Type} (F : Int → Option ByteArray) : Hd ctx γ := hdl cv0.dec (fun a => F a) cv1.enc
theorem h_impl_zeros {γ : Type} : HdOk (γ := γ) PP 115 (H_impl_zeros impl_zeros) := hd_ok ok_impl_zeros
noncomputable def E_impl_fourBytes  (n_0 : Int) : Option ByteArray :=
  some (ofBytes [(w8 (Int.fdiv n_0 (2 ^ (Min.min (24 : Int).toNat (IntKind.bits IntKind.u32))))), (w8 (Int.fdiv n_0 (2 ^ (Min.min (16 : Int).toNat (IntKind.bits IntKind.u32))))), (w8 (Int.fdiv n_0 (2 ^ (Min.min (8 : Int).toNat (IntKind.bits IntKind.u32))))), (w8 n_0)])
noncomputable def impl_fourBytes (n_0 : Int) : Option ByteArray := E_impl_fourBytes  n_0
theorem e_impl_fourBytes  : EntryIs0 ctx PP 123 [] [] cv9 cv1 (fun a => E_impl_fourBytes  a) := fun a => by kernel_rfl
theorem ok_impl_fourBytes : Tells ctx PP 123 cv9 cv1 (fun a => impl_fourBytes a) := fn_ok0 hl_nil Tryd.func123 (e_impl_fourBytes )
noncomputable def H_impl_fourBytes {γ : Type} (F : Int → Option ByteArray) : Hd ctx γ := hdl cv9.dec (fun a => F a) cv1.enc
theorem h_impl_fourBytes {γ : Type} : HdOk (γ := γ) PP 123 (H_impl_fourBytes impl_fourBytes) := hd_ok ok_impl_fourBytes
noncomputable def E_impl_eightBytes (impl_fourBytes : Int → Option ByteArray) (n_0 : Int) : Option ByteArray :=
  (impl_fourBytes (w32 (Int.fdiv n_0 (2 ^ (Min.min (32 : Int).toNat (IntKind.bits IntKind.i64)))))).bind fun r0 =>
  (impl_fourBytes (w32 n_0)).bind fun r1 =>
  bif (decide ((r0.size + r1.size) ≤ 9223372036854775807)) then
  some (r0 ++ r1)
  else none
noncomputable def impl_eightBytes (n_0 : Int) : Option ByteArray := E_impl_eightBytes impl_fourBytes n_0
theorem e_impl_eightBytes (impl_fourBytes : Int → Option ByteArray) : EntryIs0 ctx PP 168 [] [(123, H_impl_fourBytes impl_fourBytes)] cv0 cv1 (fun a => E_impl_eightBytes impl_fourBytes a) := fun a => by kernel_rfl
theorem ok_impl_eightBytes : Tells ctx PP 168 cv0 cv1 (fun a => impl_eightBytes a) := fn_ok0 (hl_cons h_impl_fourBytes hl_nil) Tryd.func168 (e_impl_eightBytes impl_fourBytes)
noncomputable def H_impl_eightBytes {γ : Type} (F : Int → Option ByteArray) : Hd ctx γ := hdl cv0.dec (fun a => F a) cv1.enc
theorem h_impl_eightBytes {γ : Type} : HdOk (γ := γ) PP 168 (H_impl_eightBytes impl_eightBytes) := hd_ok ok_impl_eightBytes
noncomputable def E_impl_ending (impl_zeros : Int → Option ByteArray) (impl_eightBytes : Int → Option ByteArray) (count_0 : Int) : Option ByteArray :=
  (impl_zeros ((w64 (119 - (count_0.tmod 64))).tmod 64)).bind fun r0 =>
  bif (decide (((⟨#[128]⟩ : ByteArray).size + r0.size) ≤ 9223372036854775807)) then
  (impl_eightBytes (w64 (8 * count_0))).bind fun r1 =>
  bif (decide ((((⟨#[128]⟩ : ByteArray) ++ r0).size + r1.size) ≤ 9223372036854775807)) then
  some (((⟨#[128]⟩ : ByteArray) ++ r0) ++ r1)
  else none
  else none
noncomputable def impl_ending (count_0 : Int) : Option ByteArray := E_impl_ending impl_zeros impl_eightBytes count_0
theorem e_impl_ending (impl_zeros : Int → Option ByteArray) (impl_eightBytes : Int → Option ByteArray) : EntryIs0 ctx PP 135 [] [(115, H_impl_zeros impl_zeros), (168, H_impl_eightBytes impl_eightBytes)] cv0 cv1 (fun a => E_impl_ending impl_zeros impl_eightBytes a) := fun a => by kernel_rfl
theorem ok_impl_ending : Tells ctx PP 135 cv0 cv1 (fun a => impl_ending a) := fn_ok0 (hl_cons h_impl_zeros (hl_cons h_impl_eightBytes hl_nil)) Tryd.func135 (e_impl_ending impl_zeros impl_eightBytes)
noncomputable def H_impl_ending {γ : Type} (F : Int → Option ByteArray) : Hd ctx γ := hdl cv0.dec (fun a => F a) cv1.enc
theorem h_impl_ending {γ : Type} : HdOk (γ := γ) PP 135 (H_impl_ending impl_ending) := hd_ok ok_impl_ending
noncomputable def E_math_bits_RotateLeft32  (x_0 : Int) (k_1 : Int) : Option Int :=
  bif (decide (0 ≤ (wu64 (32 - (wu64 (((BitVec.toNat ((BitVec.ofInt (IntKind.bits IntKind.u64) (wu64 k_1)) &&& (BitVec.ofInt (IntKind.bits IntKind.u64) (31 : Int)))) : Nat) : Int)))))) then
  some (w32 (((BitVec.toNat ((BitVec.ofInt (IntKind.bits IntKind.u32) (w32 (x_0 * (2 ^ (Min.min (wu64 (((BitVec.toNat ((BitVec.ofInt (IntKind.bits IntKind.u64) (wu64 k_1)) &&& (BitVec.ofInt (IntKind.bits IntKind.u64) (31 : Int)))) : Nat) : Int)).toNat (IntKind.bits IntKind.u32)))))) ||| (BitVec.ofInt (IntKind.bits IntKind.u32) (Int.fdiv x_0 (2 ^ (Min.min (wu64 (32 - (wu64 (((BitVec.toNat ((BitVec.ofInt (IntKind.bits IntKind.u64) (wu64 k_1)) &&& (BitVec.ofInt (IntKind.bits IntKind.u64) (31 : Int)))) : Nat) : Int)))).toNat (IntKind.bits IntKind.u32))))))) : Nat) : Int))
  else none
noncomputable def math_bits_RotateLeft32 (x_0 : Int) (k_1 : Int) : Option Int := E_math_bits_RotateLeft32  x_0 k_1
theorem e_math_bits_RotateLeft32  : EntryIs0 ctx PP 182 [] [] cv20 cv9 (fun a => E_math_bits_RotateLeft32  a.1 a.2) := fun a => by kernel_rfl
theorem ok_math_bits_RotateLeft32 : Tells ctx PP 182 cv20 cv9 (fun a => math_bits_RotateLeft32 a.1 a.2) := fn_ok0 hl_nil Tryd.func182 (e_math_bits_RotateLeft32 )
noncomputable def H_math_bits_RotateLeft32 {γ : Type} (F : Int → Int → Option Int) : Hd ctx γ := hdl cv20.dec (fun a => F a.1 a.2) cv9.enc
theorem h_math_bits_RotateLeft32 {γ : Type} : HdOk (γ := γ) PP 182 (H_math_bits_RotateLeft32 math_bits_RotateLeft32) := hd_ok ok_math_bits_RotateLeft32
noncomputable def E_impl_right (math_bits_RotateLeft32 : Int → Int → Option Int) (x_0 : Int) (n_1 : Int) : Option Int :=
  (math_bits_RotateLeft32 x_0 (w64 (0 - n_1))).bind fun r0 =>
  some r0
noncomputable def impl_right (x_0 : Int) (n_1 : Int) : Option Int := E_impl_right math_bits_RotateLeft32 x_0 n_1
theorem e_impl_right (math_bits_RotateLeft32 : Int → Int → Option Int) : EntryIs0 ctx PP 180 [] [(182, H_math_bits_RotateLeft32 math_bits_RotateLeft32)] cv20 cv9 (fun a => E_impl_right math_bits_RotateLeft32 a.1 a.2) := fun a => by kernel_rfl
theorem ok_impl_right : Tells ctx PP 180 cv20 cv9 (fun a => impl_right a.1 a.2) := fn_ok0 (hl_cons h_math_bits_RotateLeft32 hl_nil) Tryd.func180 (e_impl_right math_bits_RotateLeft32)
noncomputable def H_impl_right {γ : Type} (F : Int → Int → Option Int) : Hd ctx γ := hdl cv20.dec (fun a => F a.1 a.2) cv9.enc
theorem h_impl_right {γ : Type} : HdOk (γ := γ) PP 180 (H_impl_right impl_right) := hd_ok ok_impl_right
noncomputable def todo_impl_wordsOf_0 : List Go.Item := [.code (cAt (bodyOf Tryd.f179) [1, 1, 0, 1, 0, 0, 0]), .code (cAt (bodyOf Tryd.f179) [1, 1, 0, 1, 0, 0, 1]), .inLoop (cAt (bodyOf Tryd.f179) [1, 1, 0, 1, 0, 0]), .inBlock 0, .code (cAt (bodyOf Tryd.f179) [1, 1, 1])]
noncomputable def todo_impl_wordsOf_1 : List Go.Item := [.code (cAt (bodyOf Tryd.f179) [1, 1, 0, 1, 0, 0, 1, 1, 0, 0, 1, 1, 0, 0, 0]), .code (cAt (bodyOf Tryd.f179) [1, 1, 0, 1, 0, 0, 1, 1, 0, 0, 1, 1, 0, 0, 1]), .inLoop (cAt (bodyOf Tryd.f179) [1, 1, 0, 1, 0, 0, 1, 1, 0, 0, 1, 1, 0, 0]), .inBlock 2, .inBlock 1, .code (cAt (bodyOf Tryd.f179) [1, 1, 0, 1, 0, 0, 1, 1, 1]), .inLoop (cAt (bodyOf Tryd.f179) [1, 1, 0, 1, 0, 0]), .inBlock 0, .code (cAt (bodyOf Tryd.f179) [1, 1, 1])]
noncomputable def todo_impl_wordsOf_2 : List Go.Item := [.code (cAt (bodyOf Tryd.f179) [1, 1, 1, 0, 1, 0, 0, 0, 0]), .code (cAt (bodyOf Tryd.f179) [1, 1, 1, 0, 1, 0, 0, 0, 1]), .code (cAt (bodyOf Tryd.f179) [1, 1, 1, 0, 1, 0, 0, 1]), .inLoop (cAt (bodyOf Tryd.f179) [1, 1, 1, 0, 1, 0, 0]), .inBlock 4, .code (cAt (bodyOf Tryd.f179) [1, 1, 1, 1])]
inductive St_impl_wordsOf where
  | c0 (block_0 : ByteArray) (v_11 : Int) (v_2r0 : (List Int)) (w_3r0 : (List Int))
  | c1 (block_0 : ByteArray) (i_4 : Int) (v_11 : Int) (v_14 : Int) (v_2r0 : (List Int)) (w_3r0 : (List Int))
  | c2 (t_6 : Int) (v_2r0 : (List Int)) (w_3r0 : (List Int))
noncomputable def at_impl_wordsOf : St_impl_wordsOf → LI
  | .c0 block_0 v_11 v_2r0 w_3r0 => (todo_impl_wordsOf_0, [(0, [.one (.str block_0)]), (2, [.one (.ptr 128 0)]), (3, [.one (.ptr 192 0)]), (11, [.one (.int .i64 v_11)])], [(128, .ar 138 v_2r0), (192, .ar 138 w_3r0)])
  | .c1 block_0 i_4 v_11 v_14 v_2r0 w_3r0 => (todo_impl_wordsOf_1, [(0, [.one (.str block_0)]), (2, [.one (.ptr 128 0)]), (3, [.one (.ptr 192 0)]), (4, [.one (.int .i64 i_4)]), (11, [.one (.int .i64 v_11)]), (14, [.one (.int .i64 v_14)])], [(128, .ar 138 v_2r0), (192, .ar 138 w_3r0)])
  | .c2 t_6 v_2r0 w_3r0 => (todo_impl_wordsOf_2, [(2, [.one (.ptr 128 0)]), (3, [.one (.ptr 192 0)]), (6, [.one (.int .i64 t_6)])], [(128, .ar 138 v_2r0), (192, .ar 138 w_3r0)])
noncomputable def E_impl_wordsOf (impl_right : Int → Int → Option Int) (k : St_impl_wordsOf → Option (List Int)) (block_0 : ByteArray) : Option (List Int) :=
  k (.c0 block_0 (0 : Int) (List.replicate 64 (0 : Int)) (List.replicate 64 (0 : Int)))
noncomputable def B_impl_wordsOf (impl_right : Int → Int → Option Int) (k : St_impl_wordsOf → Option (List Int)) : St_impl_wordsOf → Option (List Int)
  | .c0 block_0 v_11 v_2r0 w_3r0 =>
    bif (decide (v_11 < 16)) then
      k (.c1 block_0 v_11 v_11 (0 : Int) v_2r0 w_3r0)
    else
      k (.c2 (16 : Int) v_2r0 w_3r0)
  | .c1 block_0 i_4 v_11 v_14 v_2r0 w_3r0 =>
    bif (decide (v_14 < 4)) then
      bif (Nat.beq 64 w_3r0.length) then
      bif ((decide (0 ≤ i_4)) && (decide (i_4 < (w_3r0.length : Int)))) then
      bif ((decide (0 ≤ (w64 ((w64 (4 * i_4)) + v_14)))) && (decide ((w64 ((w64 (4 * i_4)) + v_14)) < (block_0.size : Int)))) then
      bif (Nat.beq 64 w_3r0.length) then
      bif ((decide (0 ≤ i_4)) && (decide (i_4 < (w_3r0.length : Int)))) then
      k (.c1 block_0 i_4 v_11 (w64 (v_14 + 1)) v_2r0 (w_3r0.set i_4.toNat (w32 (((BitVec.toNat ((BitVec.ofInt (IntKind.bits IntKind.u32) (w32 ((w_3r0.getD i_4.toNat 0) * (2 ^ (Min.min (8 : Int).toNat (IntKind.bits IntKind.u32)))))) ||| (BitVec.ofInt (IntKind.bits IntKind.u32) (w32 (bt block_0 (w64 ((w64 (4 * i_4)) + v_14))))))) : Nat) : Int))))
      else none
      else none
      else none
      else none
      else none
    else
      k (.c0 block_0 (w64 (v_11 + 1)) v_2r0 w_3r0)
  | .c2 t_6 v_2r0 w_3r0 =>
    bif (decide (t_6 < 64)) then
      bif (Nat.beq 64 w_3r0.length) then
      bif ((decide (0 ≤ (w64 (t_6 - 15)))) && (decide ((w64 (t_6 - 15)) < (w_3r0.length : Int)))) then
      bif (Nat.beq 64 w_3r0.length) then
      bif ((decide (0 ≤ (w64 (t_6 - 2)))) && (decide ((w64 (t_6 - 2)) < (w_3r0.length : Int)))) then
      (impl_right (w_3r0.getD (w64 (t_6 - 15)).toNat 0) (7 : Int)).bind fun r0 =>
      (impl_right (w_3r0.getD (w64 (t_6 - 15)).toNat 0) (18 : Int)).bind fun r1 =>
      (impl_right (w_3r0.getD (w64 (t_6 - 2)).toNat 0) (17 : Int)).bind fun r2 =>
      (impl_right (w_3r0.getD (w64 (t_6 - 2)).toNat 0) (19 : Int)).bind fun r3 =>
      bif (Nat.beq 64 w_3r0.length) then
      bif ((decide (0 ≤ (w64 (t_6 - 7)))) && (decide ((w64 (t_6 - 7)) < (w_3r0.length : Int)))) then
      bif (Nat.beq 64 w_3r0.length) then
      bif ((decide (0 ≤ (w64 (t_6 - 16)))) && (decide ((w64 (t_6 - 16)) < (w_3r0.length : Int)))) then
      bif (Nat.beq 64 w_3r0.length) then
      bif ((decide (0 ≤ t_6)) && (decide (t_6 < (w_3r0.length : Int)))) then
      k (.c2 (w64 (t_6 + 1)) v_2r0 (w_3r0.set t_6.toNat (w32 ((w32 ((w32 ((w32 (((BitVec.toNat ((BitVec.ofInt (IntKind.bits IntKind.u32) (w32 (((BitVec.toNat ((BitVec.ofInt (IntKind.bits IntKind.u32) r2) ^^^ (BitVec.ofInt (IntKind.bits IntKind.u32) r3))) : Nat) : Int))) ^^^ (BitVec.ofInt (IntKind.bits IntKind.u32) (Int.fdiv (w_3r0.getD (w64 (t_6 - 2)).toNat 0) (2 ^ (Min.min (10 : Int).toNat (IntKind.bits IntKind.u32))))))) : Nat) : Int)) + (w_3r0.getD (w64 (t_6 - 7)).toNat 0))) + (w32 (((BitVec.toNat ((BitVec.ofInt (IntKind.bits IntKind.u32) (w32 (((BitVec.toNat ((BitVec.ofInt (IntKind.bits IntKind.u32) r0) ^^^ (BitVec.ofInt (IntKind.bits IntKind.u32) r1))) : Nat) : Int))) ^^^ (BitVec.ofInt (IntKind.bits IntKind.u32) (Int.fdiv (w_3r0.getD (w64 (t_6 - 15)).toNat 0) (2 ^ (Min.min (3 : Int).toNat (IntKind.bits IntKind.u32))))))) : Nat) : Int)))) + (w_3r0.getD (w64 (t_6 - 16)).toNat 0)))))
      else none
      else none
      else none
      else none
      else none
      else none
      else none
      else none
      else none
      else none
    else
      bif (Nat.beq 64 w_3r0.length) then
      bif ((Nat.beq w_3r0.length v_2r0.length) && (Nat.beq 64 w_3r0.length)) then
      bif ((Nat.beq 64 w_3r0.length) && true) then
      some w_3r0
      else none
      else none
      else none
noncomputable def L_impl_wordsOf : Nat → St_impl_wordsOf → Option (List Int)
  | 0, _ => none
  | m + 1, s => B_impl_wordsOf impl_right (L_impl_wordsOf m) s
noncomputable def impl_wordsOf (block_0 : ByteArray) : Option (List Int) := E_impl_wordsOf impl_right (L_impl_wordsOf gas) block_0
theorem e_impl_wordsOf (impl_right : Int → Int → Option Int) : EntryIs ctx PP 179 [] [(180, H_impl_right impl_right)] cv1 cv19 at_impl_wordsOf (fun k a => E_impl_wordsOf impl_right k a) := fun stop a => by kernel_rfl
theorem b_impl_wordsOf (impl_right : Int → Int → Option Int) : CutIs ctx PP 179 Tryd.f179 [] [(180, H_impl_right impl_right)] cv19 at_impl_wordsOf (B_impl_wordsOf impl_right) := fun stop s => by cases s <;> kernel_rfl
theorem i_impl_wordsOf : ∀ s s', at_impl_wordsOf s = at_impl_wordsOf s' → s = s' := by
  intro s s' h
  cases s with
  | c0 v0 v1 v2 v3 => cases s' with
    | c0 w0 w1 w2 w3 => cases h; rfl
    | c1 w0 w1 w2 w3 w4 w5 => exact (region_ne 3 6 h (by kernel_rfl) (by kernel_rfl) rfl).elim
    | c2 w0 w1 w2 => exact (region_ne 3 12 h (by kernel_rfl) (by kernel_rfl) rfl).elim
  | c1 v0 v1 v2 v3 v4 v5 => cases s' with
    | c0 w0 w1 w2 w3 => exact (region_ne 6 3 h (by kernel_rfl) (by kernel_rfl) rfl).elim
    | c1 w0 w1 w2 w3 w4 w5 => cases h; rfl
    | c2 w0 w1 w2 => exact (region_ne 6 12 h (by kernel_rfl) (by kernel_rfl) rfl).elim
  | c2 v0 v1 v2 => cases s' with
    | c0 w0 w1 w2 w3 => exact (region_ne 12 3 h (by kernel_rfl) (by kernel_rfl) rfl).elim
    | c1 w0 w1 w2 w3 w4 w5 => exact (region_ne 12 6 h (by kernel_rfl) (by kernel_rfl) rfl).elim
    | c2 w0 w1 w2 => cases h; rfl
theorem ok_impl_wordsOf : Tells ctx PP 179 cv1 cv19 (fun a => impl_wordsOf a) := fn_ok (hl_cons h_impl_right hl_nil) Tryd.func179 i_impl_wordsOf (fun _ => rfl) (fun _ _ => rfl) (b_impl_wordsOf impl_right) (e_impl_wordsOf impl_right) gas
noncomputable def H_impl_wordsOf {γ : Type} (F : ByteArray → Option (List Int)) : Hd ctx γ := hdl cv1.dec (fun a => F a) cv19.enc
theorem h_impl_wordsOf {γ : Type} : HdOk (γ := γ) PP 179 (H_impl_wordsOf impl_wordsOf) := hd_ok ok_impl_wordsOf
noncomputable def todo_impl_oneBlock_0 : List Go.Item := [.code (cAt (bodyOf Tryd.f167) [1, 1, 1, 0, 1, 0, 0, 0]), .code (cAt (bodyOf Tryd.f167) [1, 1, 1, 0, 1, 0, 0, 1]), .inLoop (cAt (bodyOf Tryd.f167) [1, 1, 1, 0, 1, 0, 0]), .inBlock 0, .code (cAt (bodyOf Tryd.f167) [1, 1, 1, 1])]
noncomputable def todo_impl_oneBlock_1 : List Go.Item := [.code (cAt (bodyOf Tryd.f167) [1, 1, 1, 1, 1, 0, 1, 0, 0, 0]), .code (cAt (bodyOf Tryd.f167) [1, 1, 1, 1, 1, 0, 1, 0, 0, 1]), .inLoop (cAt (bodyOf Tryd.f167) [1, 1, 1, 1, 1, 0, 1, 0, 0]), .inBlock 2, .code (cAt (bodyOf Tryd.f167) [1, 1, 1, 1, 1, 1])]
inductive St_impl_oneBlock where
  | c0 (a_6 : Int) (b_7 : Int) (c_8 : Int) (d_9 : Int) (e_10 : Int) (f_11 : Int) (g_12 : Int) (h_13 : Int) (v_37 : Int) (state_2r0 : (List Int)) (v_4r0 : (List Int)) (w_5r0 : (List Int))
  | c1 (v_109 : Int) (state_2r0 : (List Int)) (v_4r0 : (List Int)) (out_17r0 : (List Int))
noncomputable def at_impl_oneBlock : St_impl_oneBlock → LI
  | .c0 a_6 b_7 c_8 d_9 e_10 f_11 g_12 h_13 v_37 state_2r0 v_4r0 w_5r0 => (todo_impl_oneBlock_0, [(2, [.one (.ptr 128 0)]), (4, [.one (.ptr 256 0)]), (5, [.one (.ptr 320 0)]), (6, [.one (.int .u32 a_6)]), (7, [.one (.int .u32 b_7)]), (8, [.one (.int .u32 c_8)]), (9, [.one (.int .u32 d_9)]), (10, [.one (.int .u32 e_10)]), (11, [.one (.int .u32 f_11)]), (12, [.one (.int .u32 g_12)]), (13, [.one (.int .u32 h_13)]), (37, [.one (.int .i64 v_37)])], [(128, .ar 138 state_2r0), (256, .ar 138 v_4r0), (320, .ar 138 w_5r0)])
  | .c1 v_109 state_2r0 v_4r0 out_17r0 => (todo_impl_oneBlock_1, [(2, [.one (.ptr 128 0)]), (4, [.one (.ptr 256 0)]), (17, [.one (.ptr 1088 0)]), (109, [.one (.int .i64 v_109)])], [(128, .ar 138 state_2r0), (256, .ar 138 v_4r0), (1088, .ar 138 out_17r0)])
noncomputable def E_impl_oneBlock (impl_wordsOf : ByteArray → Option (List Int)) (impl_right : Int → Int → Option Int) (k : St_impl_oneBlock → Option (List Int)) (state_0 : (List Int)) (block_1 : ByteArray) : Option (List Int) :=
  (impl_wordsOf block_1).bind fun r0 =>
  bif ((Nat.beq r0.length (List.replicate 64 (0 : Int)).length) && (Nat.beq 64 r0.length)) then
  bif (Nat.beq 8 state_0.length) then
  bif ((decide ((0 : Int) ≤ (0 : Int))) && (decide (0 < (state_0.length : Int)))) then
  bif (Nat.beq 8 state_0.length) then
  bif ((decide ((0 : Int) ≤ (1 : Int))) && (decide (1 < (state_0.length : Int)))) then
  bif (Nat.beq 8 state_0.length) then
  bif ((decide ((0 : Int) ≤ (2 : Int))) && (decide (2 < (state_0.length : Int)))) then
  bif (Nat.beq 8 state_0.length) then
  bif ((decide ((0 : Int) ≤ (3 : Int))) && (decide (3 < (state_0.length : Int)))) then
  bif (Nat.beq 8 state_0.length) then
  bif ((decide ((0 : Int) ≤ (4 : Int))) && (decide (4 < (state_0.length : Int)))) then
  bif (Nat.beq 8 state_0.length) then
  bif ((decide ((0 : Int) ≤ (5 : Int))) && (decide (5 < (state_0.length : Int)))) then
  bif (Nat.beq 8 state_0.length) then
  bif ((decide ((0 : Int) ≤ (6 : Int))) && (decide (6 < (state_0.length : Int)))) then
  bif (Nat.beq 8 state_0.length) then
  bif ((decide ((0 : Int) ≤ (7 : Int))) && (decide (7 < (state_0.length : Int)))) then
  k (.c0 (state_0.getD (0 : Int).toNat 0) (state_0.getD (1 : Int).toNat 0) (state_0.getD (2 : Int).toNat 0) (state_0.getD (3 : Int).toNat 0) (state_0.getD (4 : Int).toNat 0) (state_0.getD (5 : Int).toNat 0) (state_0.getD (6 : Int).toNat 0) (state_0.getD (7 : Int).toNat 0) (0 : Int) state_0 [(0 : Int), (0 : Int), (0 : Int), (0 : Int), (0 : Int), (0 : Int), (0 : Int), (0 : Int)] r0)
  else none
  else none
  else none
  else none
  else none
  else none
  else none
  else none
  else none
  else none
  else none
  else none
  else none
  else none
  else none
  else none
  else none
noncomputable def B_impl_oneBlock (impl_wordsOf : ByteArray → Option (List Int)) (impl_right : Int → Int → Option Int) (k : St_impl_oneBlock → Option (List Int)) : St_impl_oneBlock → Option (List Int)
  | .c0 a_6 b_7 c_8 d_9 e_10 f_11 g_12 h_13 v_37 state_2r0 v_4r0 w_5r0 =>
    bif (decide (v_37 < 64)) then
      (impl_right e_10 (6 : Int)).bind fun r0 =>
      (impl_right e_10 (11 : Int)).bind fun r1 =>
      (impl_right e_10 (25 : Int)).bind fun r2 =>
      bif ((decide (0 ≤ v_37)) && (decide (v_37 < ((64 : Nat) : Int)))) then
      bif (Nat.blt v_37.toNat 64) then
      bif (Nat.beq 64 w_5r0.length) then
      bif ((decide (0 ≤ v_37)) && (decide (v_37 < (w_5r0.length : Int)))) then
      (impl_right a_6 (2 : Int)).bind fun r3 =>
      (impl_right a_6 (13 : Int)).bind fun r4 =>
      (impl_right a_6 (22 : Int)).bind fun r5 =>
      k (.c0 (w32 ((w32 ((w32 ((w32 ((w32 (h_13 + (w32 (((BitVec.toNat ((BitVec.ofInt (IntKind.bits IntKind.u32) (w32 (((BitVec.toNat ((BitVec.ofInt (IntKind.bits IntKind.u32) r0) ^^^ (BitVec.ofInt (IntKind.bits IntKind.u32) r1))) : Nat) : Int))) ^^^ (BitVec.ofInt (IntKind.bits IntKind.u32) r2))) : Nat) : Int)))) + (w32 (((BitVec.toNat ((BitVec.ofInt (IntKind.bits IntKind.u32) (w32 (((BitVec.toNat ((BitVec.ofInt (IntKind.bits IntKind.u32) e_10) &&& (BitVec.ofInt (IntKind.bits IntKind.u32) f_11))) : Nat) : Int))) ^^^ (BitVec.ofInt (IntKind.bits IntKind.u32) (w32 (((BitVec.toNat ((BitVec.ofInt (IntKind.bits IntKind.u32) (w32 (((BitVec.toNat ((BitVec.ofInt (IntKind.bits IntKind.u32) (ite ((IntKind.signed IntKind.u32) = true) (-(1 : Int)) (IntKind.max IntKind.u32))) ^^^ (BitVec.ofInt (IntKind.bits IntKind.u32) e_10))) : Nat) : Int))) &&& (BitVec.ofInt (IntKind.bits IntKind.u32) g_12))) : Nat) : Int))))) : Nat) : Int)))) + ([(1116352408 : Int), (1899447441 : Int), (3049323471 : Int), (3921009573 : Int), (961987163 : Int), (1508970993 : Int), (2453635748 : Int), (2870763221 : Int), (3624381080 : Int), (310598401 : Int), (607225278 : Int), (1426881987 : Int), (1925078388 : Int), (2162078206 : Int), (2614888103 : Int), (3248222580 : Int), (3835390401 : Int), (4022224774 : Int), (264347078 : Int), (604807628 : Int), (770255983 : Int), (1249150122 : Int), (1555081692 : Int), (1996064986 : Int), (2554220882 : Int), (2821834349 : Int), (2952996808 : Int), (3210313671 : Int), (3336571891 : Int), (3584528711 : Int), (113926993 : Int), (338241895 : Int), (666307205 : Int), (773529912 : Int), (1294757372 : Int), (1396182291 : Int), (1695183700 : Int), (1986661051 : Int), (2177026350 : Int), (2456956037 : Int), (2730485921 : Int), (2820302411 : Int), (3259730800 : Int), (3345764771 : Int), (3516065817 : Int), (3600352804 : Int), (4094571909 : Int), (275423344 : Int), (430227734 : Int), (506948616 : Int), (659060556 : Int), (883997877 : Int), (958139571 : Int), (1322822218 : Int), (1537002063 : Int), (1747873779 : Int), (1955562222 : Int), (2024104815 : Int), (2227730452 : Int), (2361852424 : Int), (2428436474 : Int), (2756734187 : Int), (3204031479 : Int), (3329325298 : Int)].getD v_37.toNat 0))) + (w_5r0.getD v_37.toNat 0))) + (w32 ((w32 (((BitVec.toNat ((BitVec.ofInt (IntKind.bits IntKind.u32) (w32 (((BitVec.toNat ((BitVec.ofInt (IntKind.bits IntKind.u32) r3) ^^^ (BitVec.ofInt (IntKind.bits IntKind.u32) r4))) : Nat) : Int))) ^^^ (BitVec.ofInt (IntKind.bits IntKind.u32) r5))) : Nat) : Int)) + (w32 (((BitVec.toNat ((BitVec.ofInt (IntKind.bits IntKind.u32) (w32 (((BitVec.toNat ((BitVec.ofInt (IntKind.bits IntKind.u32) (w32 (((BitVec.toNat ((BitVec.ofInt (IntKind.bits IntKind.u32) a_6) &&& (BitVec.ofInt (IntKind.bits IntKind.u32) b_7))) : Nat) : Int))) ^^^ (BitVec.ofInt (IntKind.bits IntKind.u32) (w32 (((BitVec.toNat ((BitVec.ofInt (IntKind.bits IntKind.u32) a_6) &&& (BitVec.ofInt (IntKind.bits IntKind.u32) c_8))) : Nat) : Int))))) : Nat) : Int))) ^^^ (BitVec.ofInt (IntKind.bits IntKind.u32) (w32 (((BitVec.toNat ((BitVec.ofInt (IntKind.bits IntKind.u32) b_7) &&& (BitVec.ofInt (IntKind.bits IntKind.u32) c_8))) : Nat) : Int))))) : Nat) : Int)))))) a_6 b_7 c_8 (w32 (d_9 + (w32 ((w32 ((w32 ((w32 (h_13 + (w32 (((BitVec.toNat ((BitVec.ofInt (IntKind.bits IntKind.u32) (w32 (((BitVec.toNat ((BitVec.ofInt (IntKind.bits IntKind.u32) r0) ^^^ (BitVec.ofInt (IntKind.bits IntKind.u32) r1))) : Nat) : Int))) ^^^ (BitVec.ofInt (IntKind.bits IntKind.u32) r2))) : Nat) : Int)))) + (w32 (((BitVec.toNat ((BitVec.ofInt (IntKind.bits IntKind.u32) (w32 (((BitVec.toNat ((BitVec.ofInt (IntKind.bits IntKind.u32) e_10) &&& (BitVec.ofInt (IntKind.bits IntKind.u32) f_11))) : Nat) : Int))) ^^^ (BitVec.ofInt (IntKind.bits IntKind.u32) (w32 (((BitVec.toNat ((BitVec.ofInt (IntKind.bits IntKind.u32) (w32 (((BitVec.toNat ((BitVec.ofInt (IntKind.bits IntKind.u32) (ite ((IntKind.signed IntKind.u32) = true) (-(1 : Int)) (IntKind.max IntKind.u32))) ^^^ (BitVec.ofInt (IntKind.bits IntKind.u32) e_10))) : Nat) : Int))) &&& (BitVec.ofInt (IntKind.bits IntKind.u32) g_12))) : Nat) : Int))))) : Nat) : Int)))) + ([(1116352408 : Int), (1899447441 : Int), (3049323471 : Int), (3921009573 : Int), (961987163 : Int), (1508970993 : Int), (2453635748 : Int), (2870763221 : Int), (3624381080 : Int), (310598401 : Int), (607225278 : Int), (1426881987 : Int), (1925078388 : Int), (2162078206 : Int), (2614888103 : Int), (3248222580 : Int), (3835390401 : Int), (4022224774 : Int), (264347078 : Int), (604807628 : Int), (770255983 : Int), (1249150122 : Int), (1555081692 : Int), (1996064986 : Int), (2554220882 : Int), (2821834349 : Int), (2952996808 : Int), (3210313671 : Int), (3336571891 : Int), (3584528711 : Int), (113926993 : Int), (338241895 : Int), (666307205 : Int), (773529912 : Int), (1294757372 : Int), (1396182291 : Int), (1695183700 : Int), (1986661051 : Int), (2177026350 : Int), (2456956037 : Int), (2730485921 : Int), (2820302411 : Int), (3259730800 : Int), (3345764771 : Int), (3516065817 : Int), (3600352804 : Int), (4094571909 : Int), (275423344 : Int), (430227734 : Int), (506948616 : Int), (659060556 : Int), (883997877 : Int), (958139571 : Int), (1322822218 : Int), (1537002063 : Int), (1747873779 : Int), (1955562222 : Int), (2024104815 : Int), (2227730452 : Int), (2361852424 : Int), (2428436474 : Int), (2756734187 : Int), (3204031479 : Int), (3329325298 : Int)].getD v_37.toNat 0))) + (w_5r0.getD v_37.toNat 0))))) e_10 f_11 g_12 (w64 (v_37 + 1)) state_2r0 v_4r0 w_5r0)
      else none
      else none
      else none
      else none
    else
      k (.c1 (0 : Int) state_2r0 v_4r0 [a_6, b_7, c_8, d_9, e_10, f_11, g_12, h_13])
  | .c1 v_109 state_2r0 v_4r0 out_17r0 =>
    bif (decide (v_109 < 8)) then
      bif (Nat.beq 8 out_17r0.length) then
      bif ((decide (0 ≤ v_109)) && (decide (v_109 < (out_17r0.length : Int)))) then
      bif (Nat.beq 8 state_2r0.length) then
      bif ((decide (0 ≤ v_109)) && (decide (v_109 < (state_2r0.length : Int)))) then
      bif (Nat.beq 8 out_17r0.length) then
      bif ((decide (0 ≤ v_109)) && (decide (v_109 < (out_17r0.length : Int)))) then
      k (.c1 (w64 (v_109 + 1)) state_2r0 v_4r0 (out_17r0.set v_109.toNat (w32 ((out_17r0.getD v_109.toNat 0) + (state_2r0.getD v_109.toNat 0)))))
      else none
      else none
      else none
      else none
      else none
      else none
    else
      bif (Nat.beq 8 out_17r0.length) then
      bif ((Nat.beq out_17r0.length v_4r0.length) && (Nat.beq 8 out_17r0.length)) then
      bif ((Nat.beq 8 out_17r0.length) && true) then
      some out_17r0
      else none
      else none
      else none
noncomputable def L_impl_oneBlock : Nat → St_impl_oneBlock → Option (List Int)
  | 0, _ => none
  | m + 1, s => B_impl_oneBlock impl_wordsOf impl_right (L_impl_oneBlock m) s
noncomputable def impl_oneBlock (state_0 : (List Int)) (block_1 : ByteArray) : Option (List Int) := E_impl_oneBlock impl_wordsOf impl_right (L_impl_oneBlock gas) state_0 block_1
theorem e_impl_oneBlock (impl_wordsOf : ByteArray → Option (List Int)) (impl_right : Int → Int → Option Int) : EntryIs ctx PP 167 [] [(179, H_impl_wordsOf impl_wordsOf), (180, H_impl_right impl_right)] cv21 cv19 at_impl_oneBlock (fun k a => E_impl_oneBlock impl_wordsOf impl_right k a.1 a.2) := fun stop a => by kernel_rfl
theorem b_impl_oneBlock (impl_wordsOf : ByteArray → Option (List Int)) (impl_right : Int → Int → Option Int) : CutIs ctx PP 167 Tryd.f167 [] [(179, H_impl_wordsOf impl_wordsOf), (180, H_impl_right impl_right)] cv19 at_impl_oneBlock (B_impl_oneBlock impl_wordsOf impl_right) := fun stop s => by cases s <;> kernel_rfl
theorem i_impl_oneBlock : ∀ s s', at_impl_oneBlock s = at_impl_oneBlock s' → s = s' := by
  intro s s' h
  cases s with
  | c0 v0 v1 v2 v3 v4 v5 v6 v7 v8 v9 v10 v11 => cases s' with
    | c0 w0 w1 w2 w3 w4 w5 w6 w7 w8 w9 w10 w11 => cases h; rfl
    | c1 w0 w1 w2 w3 => exact (region_ne 4 13 h (by kernel_rfl) (by kernel_rfl) rfl).elim
  | c1 v0 v1 v2 v3 => cases s' with
    | c0 w0 w1 w2 w3 w4 w5 w6 w7 w8 w9 w10 w11 => exact (region_ne 13 4 h (by kernel_rfl) (by kernel_rfl) rfl).elim
    | c1 w0 w1 w2 w3 => cases h; rfl
theorem ok_impl_oneBlock : Tells ctx PP 167 cv21 cv19 (fun a => impl_oneBlock a.1 a.2) := fn_ok (hl_cons h_impl_wordsOf (hl_cons h_impl_right hl_nil)) Tryd.func167 i_impl_oneBlock (fun _ => rfl) (fun _ _ => rfl) (b_impl_oneBlock impl_wordsOf impl_right) (e_impl_oneBlock impl_wordsOf impl_right) gas
noncomputable def H_impl_oneBlock {γ : Type} (F : (List Int) → ByteArray → Option (List Int)) : Hd ctx γ := hdl cv21.dec (fun a => F a.1 a.2) cv19.enc
theorem h_impl_oneBlock {γ : Type} : HdOk (γ := γ) PP 167 (H_impl_oneBlock impl_oneBlock) := hd_ok ok_impl_oneBlock
noncomputable def todo_impl_blocks_0 : List Go.Item := [.code (cAt (bodyOf Tryd.f133) [1, 0, 0, 0, 0, 0]), .code (cAt (bodyOf Tryd.f133) [1, 0, 0, 0, 0, 1]), .code (cAt (bodyOf Tryd.f133) [1, 0, 0, 0, 1]), .inLoop (cAt (bodyOf Tryd.f133) [1, 0, 0, 0]), .inBlock 0, .code (cAt (bodyOf Tryd.f133) [1, 1])]
inductive St_impl_blocks where
  | c0 (s_1 : ByteArray) (state_2r0 : (List Int)) (v_4r0 : (List Int))
noncomputable def at_impl_blocks : St_impl_blocks → LI
  | .c0 s_1 state_2r0 v_4r0 => (todo_impl_blocks_0, [(1, [.one (.str s_1)]), (2, [.one (.ptr 128 0)]), (4, [.one (.ptr 256 0)])], [(128, .ar 138 state_2r0), (256, .ar 138 v_4r0)])
noncomputable def E_impl_blocks (impl_oneBlock : (List Int) → ByteArray → Option (List Int)) (k : St_impl_blocks → Option ((List Int) × ByteArray)) (state_0 : (List Int)) (s_1 : ByteArray) : Option ((List Int) × ByteArray) :=
  k (.c0 s_1 state_0 [(0 : Int), (0 : Int), (0 : Int), (0 : Int), (0 : Int), (0 : Int), (0 : Int), (0 : Int)])
noncomputable def B_impl_blocks (impl_oneBlock : (List Int) → ByteArray → Option (List Int)) (k : St_impl_blocks → Option ((List Int) × ByteArray)) : St_impl_blocks → Option ((List Int) × ByteArray)
  | .c0 s_1 state_2r0 v_4r0 =>
    bif (decide ((s_1.size : Int) ≥ 64)) then
      bif (Nat.beq 8 state_2r0.length) then
      bif ((decide ((0 : Int) ≤ (64 : Int))) && (decide (64 ≤ (s_1.size : Int)))) then
      (impl_oneBlock state_2r0 (s_1.extract 0 (64 : Int).toNat)).bind fun r0 =>
      bif ((Nat.beq r0.length state_2r0.length) && (Nat.beq 8 r0.length)) then
      bif ((decide ((0 : Int) ≤ (64 : Int))) && (decide (64 ≤ (s_1.size : Int)))) then
      k (.c0 (s_1.extract (64 : Int).toNat s_1.size) r0 v_4r0)
      else none
      else none
      else none
      else none
    else
      bif (Nat.beq 8 state_2r0.length) then
      bif ((Nat.beq state_2r0.length v_4r0.length) && (Nat.beq 8 state_2r0.length)) then
      bif ((Nat.beq 8 state_2r0.length) && true) then
      some (state_2r0, s_1)
      else none
      else none
      else none
noncomputable def L_impl_blocks : Nat → St_impl_blocks → Option ((List Int) × ByteArray)
  | 0, _ => none
  | m + 1, s => B_impl_blocks impl_oneBlock (L_impl_blocks m) s
noncomputable def impl_blocks (state_0 : (List Int)) (s_1 : ByteArray) : Option ((List Int) × ByteArray) := E_impl_blocks impl_oneBlock (L_impl_blocks gas) state_0 s_1
theorem e_impl_blocks (impl_oneBlock : (List Int) → ByteArray → Option (List Int)) : EntryIs ctx PP 133 [] [(167, H_impl_oneBlock impl_oneBlock)] cv21 cv21 at_impl_blocks (fun k a => E_impl_blocks impl_oneBlock k a.1 a.2) := fun stop a => by kernel_rfl
theorem b_impl_blocks (impl_oneBlock : (List Int) → ByteArray → Option (List Int)) : CutIs ctx PP 133 Tryd.f133 [] [(167, H_impl_oneBlock impl_oneBlock)] cv21 at_impl_blocks (B_impl_blocks impl_oneBlock) := fun stop s => by cases s <;> kernel_rfl
theorem i_impl_blocks : ∀ s s', at_impl_blocks s = at_impl_blocks s' → s = s' := by
  intro s s' h
  cases s with
  | c0 v0 v1 v2 => cases s' with
    | c0 w0 w1 w2 => cases h; rfl
theorem ok_impl_blocks : Tells ctx PP 133 cv21 cv21 (fun a => impl_blocks a.1 a.2) := fn_ok (hl_cons h_impl_oneBlock hl_nil) Tryd.func133 i_impl_blocks (fun _ => rfl) (fun _ _ => rfl) (b_impl_blocks impl_oneBlock) (e_impl_blocks impl_oneBlock) gas
noncomputable def H_impl_blocks {γ : Type} (F : (List Int) → ByteArray → Option ((List Int) × ByteArray)) : Hd ctx γ := hdl cv21.dec (fun a => F a.1 a.2) cv21.enc
theorem h_impl_blocks {γ : Type} : HdOk (γ := γ) PP 133 (H_impl_blocks impl_blocks) := hd_ok ok_impl_blocks
noncomputable def todo_impl_stateText_0 : List Go.Item := [.code (cAt (bodyOf Tryd.f136) [1, 1, 0, 1, 0, 0, 0]), .code (cAt (bodyOf Tryd.f136) [1, 1, 0, 1, 0, 0, 1]), .inLoop (cAt (bodyOf Tryd.f136) [1, 1, 0, 1, 0, 0]), .inBlock 0, .code (cAt (bodyOf Tryd.f136) [1, 1, 1])]
inductive St_impl_stateText where
  | c0 (out_3 : ByteArray) (v_6 : (List Int)) (v_7 : Int)
noncomputable def at_impl_stateText : St_impl_stateText → LI
  | .c0 out_3 v_6 v_7 => (todo_impl_stateText_0, [(3, [.one (.str out_3)]), (6, [.arr 138 v_6]), (7, [.one (.int .i64 v_7)])], [])
noncomputable def E_impl_stateText (impl_fourBytes : Int → Option ByteArray) (k : St_impl_stateText → Option ByteArray) (state_0 : (List Int)) : Option ByteArray :=
  bif (Nat.beq 8 state_0.length) then
  k (.c0 (⟨#[]⟩ : ByteArray) state_0 (0 : Int))
  else none
noncomputable def B_impl_stateText (impl_fourBytes : Int → Option ByteArray) (k : St_impl_stateText → Option ByteArray) : St_impl_stateText → Option ByteArray
  | .c0 out_3 v_6 v_7 =>
    bif (decide (v_7 < 8)) then
      bif (Nat.beq 8 v_6.length) then
      bif ((decide (0 ≤ v_7)) && (decide (v_7 < (v_6.length : Int)))) then
      (impl_fourBytes (v_6.getD v_7.toNat 0)).bind fun r0 =>
      bif (decide ((out_3.size + r0.size) ≤ 9223372036854775807)) then
      k (.c0 (out_3 ++ r0) v_6 (w64 (v_7 + 1)))
      else none
      else none
      else none
    else
      some out_3
noncomputable def L_impl_stateText : Nat → St_impl_stateText → Option ByteArray
  | 0, _ => none
  | m + 1, s => B_impl_stateText impl_fourBytes (L_impl_stateText m) s
noncomputable def impl_stateText (state_0 : (List Int)) : Option ByteArray := E_impl_stateText impl_fourBytes (L_impl_stateText gas) state_0
theorem e_impl_stateText (impl_fourBytes : Int → Option ByteArray) : EntryIs ctx PP 136 [] [(123, H_impl_fourBytes impl_fourBytes)] cv19 cv1 at_impl_stateText (fun k a => E_impl_stateText impl_fourBytes k a) := fun stop a => by kernel_rfl
theorem b_impl_stateText (impl_fourBytes : Int → Option ByteArray) : CutIs ctx PP 136 Tryd.f136 [] [(123, H_impl_fourBytes impl_fourBytes)] cv1 at_impl_stateText (B_impl_stateText impl_fourBytes) := fun stop s => by cases s <;> kernel_rfl
theorem i_impl_stateText : ∀ s s', at_impl_stateText s = at_impl_stateText s' → s = s' := by
  intro s s' h
  cases s with
  | c0 v0 v1 v2 => cases s' with
    | c0 w0 w1 w2 => cases h; rfl
theorem ok_impl_stateText : Tells ctx PP 136 cv19 cv1 (fun a => impl_stateText a) := fn_ok (hl_cons h_impl_fourBytes hl_nil) Tryd.func136 i_impl_stateText (fun _ => rfl) (fun _ _ => rfl) (b_impl_stateText impl_fourBytes) (e_impl_stateText impl_fourBytes) gas
noncomputable def H_impl_stateText {γ : Type} (F : (List Int) → Option ByteArray) : Hd ctx γ := hdl cv19.dec (fun a => F a) cv1.enc
theorem h_impl_stateText {γ : Type} : HdOk (γ := γ) PP 136 (H_impl_stateText impl_stateText) := hd_ok ok_impl_stateText
noncomputable def E_impl_DigestOf (impl_firstState : Option (List Int)) (impl_ending : Int → Option ByteArray) (impl_blocks : (List Int) → ByteArray → Option ((List Int) × ByteArray)) (impl_stateText : (List Int) → Option ByteArray) (s_0 : ByteArray) : Option ByteArray :=
  impl_firstState.bind fun r0 =>
  (impl_ending (s_0.size : Int)).bind fun r1 =>
  bif (decide ((s_0.size + r1.size) ≤ 9223372036854775807)) then
  (impl_blocks r0 (s_0 ++ r1)).bind fun r2 =>
  bif ((Nat.beq r2.1.length 8) && (Nat.beq 8 r2.1.length)) then
  bif (Nat.beq 8 r2.1.length) then
  (impl_stateText r2.1).bind fun r3 =>
  some r3
  else none
  else none
  else none
noncomputable def impl_DigestOf (s_0 : ByteArray) : Option ByteArray := E_impl_DigestOf impl_firstState impl_ending impl_blocks impl_stateText s_0
theorem e_impl_DigestOf (impl_firstState : Option (List Int)) (impl_ending : Int → Option ByteArray) (impl_blocks : (List Int) → ByteArray → Option ((List Int) × ByteArray)) (impl_stateText : (List Int) → Option ByteArray) : EntryIs0 ctx PP 84 [] [(134, H_impl_firstState impl_firstState), (135, H_impl_ending impl_ending), (133, H_impl_blocks impl_blocks), (136, H_impl_stateText impl_stateText)] cv1 cv1 (fun a => E_impl_DigestOf impl_firstState impl_ending impl_blocks impl_stateText a) := fun a => by kernel_rfl
theorem ok_impl_DigestOf : Tells ctx PP 84 cv1 cv1 (fun a => impl_DigestOf a) := fn_ok0 (hl_cons h_impl_firstState (hl_cons h_impl_ending (hl_cons h_impl_blocks (hl_cons h_impl_stateText hl_nil)))) Tryd.func84 (e_impl_DigestOf impl_firstState impl_ending impl_blocks impl_stateText)
noncomputable def H_impl_DigestOf {γ : Type} (F : ByteArray → Option ByteArray) : Hd ctx γ := hdl cv1.dec (fun a => F a) cv1.enc
theorem h_impl_DigestOf {γ : Type} : HdOk (γ := γ) PP 84 (H_impl_DigestOf impl_DigestOf) := hd_ok ok_impl_DigestOf
noncomputable def E_impl_Enter (impl_RecText : SRec → Option (ByteArray × Bool)) (impl_BookOk : SBook → Option Bool) (impl_copyBook : SBook → Option SBook) (impl_Book_thing : SBook → SThing → Option (Bool × SBook)) (impl_thingAt : SBook → Int → Option Int) (impl_DigestOf : ByteArray → Option ByteArray) (b_0 : SBook) (r_1 : SRec) : Option (SBook × Bool) :=
  (impl_RecText r_1).bind fun r0 =>
  (impl_BookOk b_0).bind fun r1 =>
  bif (!r1) then
    some ((⟨(⟨#[]⟩ : ByteArray), (0 : Int), [], (0 : Int), (⟨#[]⟩ : ByteArray), (0 : Int)⟩ : SBook), false)
  else
    bif (!r0.2) then
      some ((⟨(⟨#[]⟩ : ByteArray), (0 : Int), [], (0 : Int), (⟨#[]⟩ : ByteArray), (0 : Int)⟩ : SBook), false)
    else
      bif (decide (b_0.fCount ≥ 10000)) then
        some ((⟨(⟨#[]⟩ : ByteArray), (0 : Int), [], (0 : Int), (⟨#[]⟩ : ByteArray), (0 : Int)⟩ : SBook), false)
      else
        (impl_copyBook b_0).bind fun r2 =>
        bif (r_1.fKind == 1) then
          bif (decide ((b_0.fChain.size + r0.1.size) ≤ 9223372036854775807)) then
          (impl_DigestOf (b_0.fChain ++ r0.1)).bind fun r3 =>
          some ((⟨r_1.fText, (0 : Int), r2.fThings, r2.fLast, r3, (w64 (r2.fCount + 1))⟩ : SBook), true)
          else none
        else
          bif (r_1.fKind == 2) then
            bif (decide ((b_0.fChain.size + r0.1.size) ≤ 9223372036854775807)) then
            (impl_DigestOf (b_0.fChain ++ r0.1)).bind fun r4 =>
            some ((⟨r2.fWord, r_1.fNum, r2.fThings, r2.fLast, r4, (w64 (r2.fCount + 1))⟩ : SBook), true)
            else none
          else
            bif (r_1.fKind == 3) then
              (impl_Book_thing r2 r_1.fThing).bind fun r5 =>
              bif (!r5.1) then
                some ((⟨(⟨#[]⟩ : ByteArray), (0 : Int), [], (0 : Int), (⟨#[]⟩ : ByteArray), (0 : Int)⟩ : SBook), false)
              else
                bif (decide ((b_0.fChain.size + r0.1.size) ≤ 9223372036854775807)) then
                (impl_DigestOf (b_0.fChain ++ r0.1)).bind fun r6 =>
                some ((⟨r5.2.fWord, r5.2.fTries, r5.2.fThings, r5.2.fLast, r6, (w64 (r5.2.fCount + 1))⟩ : SBook), true)
                else none
            else
              bif (r_1.fKind == 4) then
                (impl_thingAt b_0 r_1.fNum).bind fun r7 =>
                bif (decide (r7 < 0)) then
                  some ((⟨(⟨#[]⟩ : ByteArray), (0 : Int), [], (0 : Int), (⟨#[]⟩ : ByteArray), (0 : Int)⟩ : SBook), false)
                else
                  bif ((decide (0 ≤ r7)) && (decide (r7 ≤ (b_0.fThings.length : Int)))) then
                  bif (decide ((((b_0.fThings.take r7.toNat).drop 0).length * 48) ≤ 140737488355328)) then
                  bif ((decide (0 ≤ (w64 (r7 + 1)))) && (decide ((w64 (r7 + 1)) ≤ (b_0.fThings.length : Int)))) then
                  bif (decide (((((b_0.fThings.take r7.toNat).drop 0).length + ((b_0.fThings.take b_0.fThings.length).drop (w64 (r7 + 1)).toNat).length) * 48) ≤ 140737488355328)) then
                  bif (decide ((b_0.fChain.size + r0.1.size) ≤ 9223372036854775807)) then
                  (impl_DigestOf (b_0.fChain ++ r0.1)).bind fun r8 =>
                  some ((⟨r2.fWord, r2.fTries, (((b_0.fThings.take r7.toNat).drop 0) ++ ((b_0.fThings.take b_0.fThings.length).drop (w64 (r7 + 1)).toNat)), r2.fLast, r8, (w64 (r2.fCount + 1))⟩ : SBook), true)
                  else none
                  else none
                  else none
                  else none
                  else none
              else
                bif (decide ((b_0.fChain.size + r0.1.size) ≤ 9223372036854775807)) then
                (impl_DigestOf (b_0.fChain ++ r0.1)).bind fun r9 =>
                some ((⟨r2.fWord, r2.fTries, r2.fThings, r2.fLast, r9, (w64 (r2.fCount + 1))⟩ : SBook), true)
                else none
noncomputable def impl_Enter (b_0 : SBook) (r_1 : SRec) : Option (SBook × Bool) := E_impl_Enter impl_RecText impl_BookOk impl_copyBook impl_Book_thing impl_thingAt impl_DigestOf b_0 r_1
theorem e_impl_Enter (impl_RecText : SRec → Option (ByteArray × Bool)) (impl_BookOk : SBook → Option Bool) (impl_copyBook : SBook → Option SBook) (impl_Book_thing : SBook → SThing → Option (Bool × SBook)) (impl_thingAt : SBook → Int → Option Int) (impl_DigestOf : ByteArray → Option ByteArray) : EntryIs0 ctx PP 31 [] [(63, H_impl_RecText impl_RecText), (80, H_impl_BookOk impl_BookOk), (81, H_impl_copyBook impl_copyBook), (82, H_impl_Book_thing impl_Book_thing), (83, H_impl_thingAt impl_thingAt), (84, H_impl_DigestOf impl_DigestOf)] cv48 cv49 (fun a => E_impl_Enter impl_RecText impl_BookOk impl_copyBook impl_Book_thing impl_thingAt impl_DigestOf a.1 a.2) := fun a => by kernel_rfl
theorem ok_impl_Enter : Tells ctx PP 31 cv48 cv49 (fun a => impl_Enter a.1 a.2) := fn_ok0 (hl_cons h_impl_RecText (hl_cons h_impl_BookOk (hl_cons h_impl_copyBook (hl_cons h_impl_Book_thing (hl_cons h_impl_thingAt (hl_cons h_impl_DigestOf hl_nil)))))) Tryd.func31 (e_impl_Enter impl_RecText impl_BookOk impl_copyBook impl_Book_thing impl_thingAt impl_DigestOf)
noncomputable def H_impl_Enter {γ : Type} (F : SBook → SRec → Option (SBook × Bool)) : Hd ctx γ := hdl cv48.dec (fun a => F a.1 a.2) cv49.enc
theorem h_impl_Enter {γ : Type} : HdOk (γ := γ) PP 31 (H_impl_Enter impl_Enter) := hd_ok ok_impl_Enter
noncomputable def E_laws_eqThing  (a_0 : SThing) (b_1 : SThing) : Option Bool :=
  bif (a_0.fId != b_1.fId) then
    some false
  else
    bif (a_0.fKind != b_1.fKind) then
      some false
    else
      bif (!(a_0.fHidden == b_1.fHidden)) then
        some false
      else
        bif (!(a_0.fFixed == b_1.fFixed)) then
          some false
        else
          bif (!(a_0.fSigns == b_1.fSigns)) then
            some false
          else
            bif (!(a_0.fWraps == b_1.fWraps)) then
              some false
            else
              bif (!((ByteArray.toList a_0.fValue) == (ByteArray.toList b_1.fValue))) then
                some false
              else
                bif (a_0.fNext != b_1.fNext) then
                  some false
                else
                  some true
noncomputable def laws_eqThing (a_0 : SThing) (b_1 : SThing) : Option Bool := E_laws_eqThing  a_0 b_1
theorem e_laws_eqThing  : EntryIs0 ctx PP 126 [] [] cv45 cv3 (fun a => E_laws_eqThing  a.1 a.2) := fun a => by kernel_rfl
theorem ok_laws_eqThing : Tells ctx PP 126 cv45 cv3 (fun a => laws_eqThing a.1 a.2) := fn_ok0 hl_nil Tryd.func126 (e_laws_eqThing )
noncomputable def H_laws_eqThing {γ : Type} (F : SThing → SThing → Option Bool) : Hd ctx γ := hdl cv45.dec (fun a => F a.1 a.2) cv3.enc
theorem h_laws_eqThing {γ : Type} : HdOk (γ := γ) PP 126 (H_laws_eqThing laws_eqThing) := hd_ok ok_laws_eqThing
noncomputable def todo_laws_eqThingS_0 : List Go.Item := [.code (cAt (bodyOf Tryd.f85) [1, 1, 0, 1, 0, 0, 0, 0]), .code (cAt (bodyOf Tryd.f85) [1, 1, 0, 1, 0, 0, 0, 1]), .code (cAt (bodyOf Tryd.f85) [1, 1, 0, 1, 0, 0, 1]), .inLoop (cAt (bodyOf Tryd.f85) [1, 1, 0, 1, 0, 0]), .inBlock 0, .code (cAt (bodyOf Tryd.f85) [1, 1, 1])]
inductive St_laws_eqThingS where
  | c0 (a_0 : (List SThing)) (b_1 : (List SThing)) (i_5 : Int)
noncomputable def at_laws_eqThingS : St_laws_eqThingS → LI
  | .c0 a_0 b_1 i_5 => (todo_laws_eqThingS_0, [(0, [.one (.rsl 33 a_0)]), (1, [.one (.rsl 33 b_1)]), (5, [.one (.int .i64 i_5)])], [])
noncomputable def E_laws_eqThingS (laws_eqThing : SThing → SThing → Option Bool) (k : St_laws_eqThingS → Option Bool) (a_0 : (List SThing)) (b_1 : (List SThing)) : Option Bool :=
  bif ((a_0.length : Int) != (b_1.length : Int)) then
    some false
  else
    k (.c0 a_0 b_1 (0 : Int))
noncomputable def B_laws_eqThingS (laws_eqThing : SThing → SThing → Option Bool) (k : St_laws_eqThingS → Option Bool) : St_laws_eqThingS → Option Bool
  | .c0 a_0 b_1 i_5 =>
    bif (decide (i_5 < (a_0.length : Int))) then
      bif ((decide (0 ≤ i_5)) && (decide (i_5 < (a_0.length : Int)))) then
      bif ((decide (0 ≤ i_5)) && (decide (i_5 < (b_1.length : Int)))) then
      (laws_eqThing (a_0.getD i_5.toNat (⟨(0 : Int), (0 : Int), false, false, false, false, (⟨#[]⟩ : ByteArray), (0 : Int)⟩ : SThing)) (b_1.getD i_5.toNat (⟨(0 : Int), (0 : Int), false, false, false, false, (⟨#[]⟩ : ByteArray), (0 : Int)⟩ : SThing))).bind fun r0 =>
      bif (!r0) then
        some false
      else
        k (.c0 a_0 b_1 (w64 (i_5 + 1)))
      else none
      else none
    else
      some true
noncomputable def L_laws_eqThingS : Nat → St_laws_eqThingS → Option Bool
  | 0, _ => none
  | m + 1, s => B_laws_eqThingS laws_eqThing (L_laws_eqThingS m) s
noncomputable def laws_eqThingS (a_0 : (List SThing)) (b_1 : (List SThing)) : Option Bool := E_laws_eqThingS laws_eqThing (L_laws_eqThingS gas) a_0 b_1
theorem e_laws_eqThingS (laws_eqThing : SThing → SThing → Option Bool) : EntryIs ctx PP 85 [] [(126, H_laws_eqThing laws_eqThing)] cv59 cv3 at_laws_eqThingS (fun k a => E_laws_eqThingS laws_eqThing k a.1 a.2) := fun stop a => by kernel_rfl
theorem b_laws_eqThingS (laws_eqThing : SThing → SThing → Option Bool) : CutIs ctx PP 85 Tryd.f85 [] [(126, H_laws_eqThing laws_eqThing)] cv3 at_laws_eqThingS (B_laws_eqThingS laws_eqThing) := fun stop s => by cases s <;> kernel_rfl
theorem i_laws_eqThingS : ∀ s s', at_laws_eqThingS s = at_laws_eqThingS s' → s = s' := by
  intro s s' h
  cases s with
  | c0 v0 v1 v2 => cases s' with
    | c0 w0 w1 w2 => cases h; rfl
theorem ok_laws_eqThingS : Tells ctx PP 85 cv59 cv3 (fun a => laws_eqThingS a.1 a.2) := fn_ok (hl_cons h_laws_eqThing hl_nil) Tryd.func85 i_laws_eqThingS (fun _ => rfl) (fun _ _ => rfl) (b_laws_eqThingS laws_eqThing) (e_laws_eqThingS laws_eqThing) gas
noncomputable def H_laws_eqThingS {γ : Type} (F : (List SThing) → (List SThing) → Option Bool) : Hd ctx γ := hdl cv59.dec (fun a => F a.1 a.2) cv3.enc
theorem h_laws_eqThingS {γ : Type} : HdOk (γ := γ) PP 85 (H_laws_eqThingS laws_eqThingS) := hd_ok ok_laws_eqThingS
noncomputable def E_laws_eqBook (laws_eqThingS : (List SThing) → (List SThing) → Option Bool) (a_0 : SBook) (b_1 : SBook) : Option Bool :=
  bif (!((ByteArray.toList a_0.fWord) == (ByteArray.toList b_1.fWord))) then
    some false
  else
    bif (a_0.fTries != b_1.fTries) then
      some false
    else
      (laws_eqThingS a_0.fThings b_1.fThings).bind fun r0 =>
      bif (!r0) then
        some false
      else
        bif (a_0.fLast != b_1.fLast) then
          some false
        else
          bif (!((ByteArray.toList a_0.fChain) == (ByteArray.toList b_1.fChain))) then
            some false
          else
            bif (a_0.fCount != b_1.fCount) then
              some false
            else
              some true
noncomputable def laws_eqBook (a_0 : SBook) (b_1 : SBook) : Option Bool := E_laws_eqBook laws_eqThingS a_0 b_1
theorem e_laws_eqBook (laws_eqThingS : (List SThing) → (List SThing) → Option Bool) : EntryIs0 ctx PP 32 [] [(85, H_laws_eqThingS laws_eqThingS)] cv60 cv3 (fun a => E_laws_eqBook laws_eqThingS a.1 a.2) := fun a => by kernel_rfl
theorem ok_laws_eqBook : Tells ctx PP 32 cv60 cv3 (fun a => laws_eqBook a.1 a.2) := fn_ok0 (hl_cons h_laws_eqThingS hl_nil) Tryd.func32 (e_laws_eqBook laws_eqThingS)
noncomputable def H_laws_eqBook {γ : Type} (F : SBook → SBook → Option Bool) : Hd ctx γ := hdl cv60.dec (fun a => F a.1 a.2) cv3.enc
theorem h_laws_eqBook {γ : Type} : HdOk (γ := γ) PP 32 (H_laws_eqBook laws_eqBook) := hd_ok ok_laws_eqBook
noncomputable def todo_laws_markText_0 : List Go.Item := [.code (cAt (bodyOf Tryd.f67) [1, 1, 1, 0, 0, 0, 0, 0]), .code (cAt (bodyOf Tryd.f67) [1, 1, 1, 0, 0, 0, 0, 1]), .code (cAt (bodyOf Tryd.f67) [1, 1, 1, 0, 0, 0, 1]), .inLoop (cAt (bodyOf Tryd.f67) [1, 1, 1, 0, 0, 0]), .inBlock 0, .code (cAt (bodyOf Tryd.f67) [1, 1, 1, 1])]
inductive St_laws_markText where
  | c0 (k_0 : Int) (out_3 : ByteArray)
noncomputable def at_laws_markText : St_laws_markText → LI
  | .c0 k_0 out_3 => (todo_laws_markText_0, [(0, [.one (.int .i64 k_0)]), (3, [.one (.str out_3)])], [])
noncomputable def E_laws_markText  (k : St_laws_markText → Option ByteArray) (k_0 : Int) : Option ByteArray :=
  bif (decide (k_0 ≤ 0)) then
    some (⟨#[109, 48]⟩ : ByteArray)
  else
    k (.c0 k_0 (⟨#[]⟩ : ByteArray))
noncomputable def B_laws_markText  (k : St_laws_markText → Option ByteArray) : St_laws_markText → Option ByteArray
  | .c0 k_0 out_3 =>
    bif (decide (k_0 > 0)) then
      bif (decide (((ofBytes [(w8 (w64 (48 + (k_0.tmod 10))))]).size + out_3.size) ≤ 9223372036854775807)) then
      k (.c0 (w64 (k_0.tdiv 10)) ((ofBytes [(w8 (w64 (48 + (k_0.tmod 10))))]) ++ out_3))
      else none
    else
      bif (decide (((⟨#[109]⟩ : ByteArray).size + out_3.size) ≤ 9223372036854775807)) then
      some ((⟨#[109]⟩ : ByteArray) ++ out_3)
      else none
noncomputable def L_laws_markText : Nat → St_laws_markText → Option ByteArray
  | 0, _ => none
  | m + 1, s => B_laws_markText  (L_laws_markText m) s
noncomputable def laws_markText (k_0 : Int) : Option ByteArray := E_laws_markText  (L_laws_markText gas) k_0
theorem e_laws_markText  : EntryIs ctx PP 67 [] [] cv0 cv1 at_laws_markText (fun k a => E_laws_markText  k a) := fun stop a => by kernel_rfl
theorem b_laws_markText  : CutIs ctx PP 67 Tryd.f67 [] [] cv1 at_laws_markText (B_laws_markText ) := fun stop s => by cases s <;> kernel_rfl
theorem i_laws_markText : ∀ s s', at_laws_markText s = at_laws_markText s' → s = s' := by
  intro s s' h
  cases s with
  | c0 v0 v1 => cases s' with
    | c0 w0 w1 => cases h; rfl
theorem ok_laws_markText : Tells ctx PP 67 cv0 cv1 (fun a => laws_markText a) := fn_ok hl_nil Tryd.func67 i_laws_markText (fun _ => rfl) (fun _ _ => rfl) (b_laws_markText ) (e_laws_markText ) gas
noncomputable def H_laws_markText {γ : Type} (F : Int → Option ByteArray) : Hd ctx γ := hdl cv0.dec (fun a => F a) cv1.enc
theorem h_laws_markText {γ : Type} : HdOk (γ := γ) PP 67 (H_laws_markText laws_markText) := hd_ok ok_laws_markText
noncomputable def todo_laws_markThingS_0 : List Go.Item := [.code (cAt (bodyOf Tryd.f86) [1, 0, 1, 0, 0, 0, 0]), .code (cAt (bodyOf Tryd.f86) [1, 0, 1, 0, 0, 0, 1]), .code (cAt (bodyOf Tryd.f86) [1, 0, 1, 0, 0, 1]), .inLoop (cAt (bodyOf Tryd.f86) [1, 0, 1, 0, 0]), .inBlock 0, .code (cAt (bodyOf Tryd.f86) [1, 1])]
noncomputable def todo_laws_markThingS_1 : List Go.Item := [.code (cAt (bodyOf Tryd.f86) [1, 0, 1, 0, 0, 1, 0, 0, 1, 1, 0]), .code (cAt (bodyOf Tryd.f86) [1, 0, 1, 0, 0, 1, 0, 0, 1, 1, 1]), .inBlock 1, .code (cAt (bodyOf Tryd.f86) [1, 0, 1, 0, 0, 1, 1]), .inLoop (cAt (bodyOf Tryd.f86) [1, 0, 1, 0, 0]), .inBlock 0, .code (cAt (bodyOf Tryd.f86) [1, 1])]
noncomputable def todo_laws_markThingS_2 : List Go.Item := [.code (cAt (bodyOf Tryd.f86) [1, 0, 1, 0, 0, 1, 0, 0, 1, 1, 1, 1, 0]), .code (cAt (bodyOf Tryd.f86) [1, 0, 1, 0, 0, 1, 0, 0, 1, 1, 1, 1, 1]), .inBlock 1, .code (cAt (bodyOf Tryd.f86) [1, 0, 1, 0, 0, 1, 1]), .inLoop (cAt (bodyOf Tryd.f86) [1, 0, 1, 0, 0]), .inBlock 0, .code (cAt (bodyOf Tryd.f86) [1, 1])]
noncomputable def todo_laws_markThingS_3 : List Go.Item := [.code (cAt (bodyOf Tryd.f86) [1, 0, 1, 0, 0, 1, 0, 0, 1, 1, 1, 1, 1, 1, 0]), .code (cAt (bodyOf Tryd.f86) [1, 0, 1, 0, 0, 1, 0, 0, 1, 1, 1, 1, 1, 1, 1]), .inBlock 1, .code (cAt (bodyOf Tryd.f86) [1, 0, 1, 0, 0, 1, 1]), .inLoop (cAt (bodyOf Tryd.f86) [1, 0, 1, 0, 0]), .inBlock 0, .code (cAt (bodyOf Tryd.f86) [1, 1])]
noncomputable def todo_laws_markThingS_4 : List Go.Item := [.code (cAt (bodyOf Tryd.f86) [1, 0, 1, 0, 0, 1, 0, 0, 1, 1, 1, 1, 1, 1, 1, 1, 0]), .code (cAt (bodyOf Tryd.f86) [1, 0, 1, 0, 0, 1, 0, 0, 1, 1, 1, 1, 1, 1, 1, 1, 1]), .inBlock 1, .code (cAt (bodyOf Tryd.f86) [1, 0, 1, 0, 0, 1, 1]), .inLoop (cAt (bodyOf Tryd.f86) [1, 0, 1, 0, 0]), .inBlock 0, .code (cAt (bodyOf Tryd.f86) [1, 1])]
noncomputable def todo_laws_markThingS_5 : List Go.Item := [.code (cAt (bodyOf Tryd.f86) [1, 0, 1, 0, 0, 1, 0, 0, 1, 1, 1, 1, 1, 1, 1, 1, 1, 1, 0]), .code (cAt (bodyOf Tryd.f86) [1, 0, 1, 0, 0, 1, 0, 0, 1, 1, 1, 1, 1, 1, 1, 1, 1, 1, 1]), .inBlock 1, .code (cAt (bodyOf Tryd.f86) [1, 0, 1, 0, 0, 1, 1]), .inLoop (cAt (bodyOf Tryd.f86) [1, 0, 1, 0, 0]), .inBlock 0, .code (cAt (bodyOf Tryd.f86) [1, 1])]
noncomputable def todo_laws_markThingS_6 : List Go.Item := [.code (cAt (bodyOf Tryd.f86) [1, 0, 1, 0, 0, 1, 0, 0, 1, 1, 1, 1, 1, 1, 1, 1, 1, 1, 1, 1, 0]), .code (cAt (bodyOf Tryd.f86) [1, 0, 1, 0, 0, 1, 0, 0, 1, 1, 1, 1, 1, 1, 1, 1, 1, 1, 1, 1, 1]), .inBlock 1, .code (cAt (bodyOf Tryd.f86) [1, 0, 1, 0, 0, 1, 1]), .inLoop (cAt (bodyOf Tryd.f86) [1, 0, 1, 0, 0]), .inBlock 0, .code (cAt (bodyOf Tryd.f86) [1, 1])]
noncomputable def todo_laws_markThingS_7 : List Go.Item := [.code (cAt (bodyOf Tryd.f86) [1, 0, 1, 0, 0, 1, 0, 0, 1, 1, 1, 1, 1, 1, 1, 1, 1, 1, 1, 1, 1, 1, 0]), .code (cAt (bodyOf Tryd.f86) [1, 0, 1, 0, 0, 1, 0, 0, 1, 1, 1, 1, 1, 1, 1, 1, 1, 1, 1, 1, 1, 1, 1]), .inBlock 1, .code (cAt (bodyOf Tryd.f86) [1, 0, 1, 0, 0, 1, 1]), .inLoop (cAt (bodyOf Tryd.f86) [1, 0, 1, 0, 0]), .inBlock 0, .code (cAt (bodyOf Tryd.f86) [1, 1])]
inductive St_laws_markThingS where
  | c0 (k_1 : Int) (i_5 : Int) (a_0r1 : (List SThing))
  | c1 (k_1 : Int) (i_5 : Int) (a_0r1 : (List SThing))
  | c2 (k_1 : Int) (i_5 : Int) (a_0r1 : (List SThing))
  | c3 (k_1 : Int) (i_5 : Int) (a_0r1 : (List SThing))
  | c4 (k_1 : Int) (i_5 : Int) (a_0r1 : (List SThing))
  | c5 (k_1 : Int) (i_5 : Int) (a_0r1 : (List SThing))
  | c6 (k_1 : Int) (i_5 : Int) (a_0r1 : (List SThing))
  | c7 (k_1 : Int) (i_5 : Int) (a_0r1 : (List SThing))
noncomputable def at_laws_markThingS : St_laws_markThingS → LI
  | .c0 k_1 i_5 a_0r1 => (todo_laws_markThingS_0, [(0, [.one (.own 1)]), (1, [.one (.int .i64 k_1)]), (5, [.one (.int .i64 i_5)])], [(1, .io 33 a_0r1)])
  | .c1 k_1 i_5 a_0r1 => (todo_laws_markThingS_1, [(0, [.one (.own 1)]), (1, [.one (.int .i64 k_1)]), (5, [.one (.int .i64 i_5)])], [(1, .io 33 a_0r1)])
  | .c2 k_1 i_5 a_0r1 => (todo_laws_markThingS_2, [(0, [.one (.own 1)]), (1, [.one (.int .i64 k_1)]), (5, [.one (.int .i64 i_5)])], [(1, .io 33 a_0r1)])
  | .c3 k_1 i_5 a_0r1 => (todo_laws_markThingS_3, [(0, [.one (.own 1)]), (1, [.one (.int .i64 k_1)]), (5, [.one (.int .i64 i_5)])], [(1, .io 33 a_0r1)])
  | .c4 k_1 i_5 a_0r1 => (todo_laws_markThingS_4, [(0, [.one (.own 1)]), (1, [.one (.int .i64 k_1)]), (5, [.one (.int .i64 i_5)])], [(1, .io 33 a_0r1)])
  | .c5 k_1 i_5 a_0r1 => (todo_laws_markThingS_5, [(0, [.one (.own 1)]), (1, [.one (.int .i64 k_1)]), (5, [.one (.int .i64 i_5)])], [(1, .io 33 a_0r1)])
  | .c6 k_1 i_5 a_0r1 => (todo_laws_markThingS_6, [(0, [.one (.own 1)]), (1, [.one (.int .i64 k_1)]), (5, [.one (.int .i64 i_5)])], [(1, .io 33 a_0r1)])
  | .c7 k_1 i_5 a_0r1 => (todo_laws_markThingS_7, [(0, [.one (.own 1)]), (1, [.one (.int .i64 k_1)]), (5, [.one (.int .i64 i_5)])], [(1, .io 33 a_0r1)])
noncomputable def E_laws_markThingS (laws_markText : Int → Option ByteArray) (k : St_laws_markThingS → Option (Int × (List SThing))) (a_0 : (List SThing)) (k_1 : Int) : Option (Int × (List SThing)) :=
  k (.c0 k_1 (0 : Int) a_0)
noncomputable def B_laws_markThingS (laws_markText : Int → Option ByteArray) (k : St_laws_markThingS → Option (Int × (List SThing))) : St_laws_markThingS → Option (Int × (List SThing))
  | .c0 k_1 i_5 a_0r1 =>
    bif (decide (i_5 < (a_0r1.length : Int))) then
      bif ((decide (0 ≤ i_5)) && (decide (i_5 < (a_0r1.length : Int)))) then
      k (.c1 (w64 (k_1 + 1)) i_5 (a_0r1.set i_5.toNat (⟨k_1, (a_0r1.getD i_5.toNat (⟨(0 : Int), (0 : Int), false, false, false, false, (⟨#[]⟩ : ByteArray), (0 : Int)⟩ : SThing)).fKind, (a_0r1.getD i_5.toNat (⟨(0 : Int), (0 : Int), false, false, false, false, (⟨#[]⟩ : ByteArray), (0 : Int)⟩ : SThing)).fHidden, (a_0r1.getD i_5.toNat (⟨(0 : Int), (0 : Int), false, false, false, false, (⟨#[]⟩ : ByteArray), (0 : Int)⟩ : SThing)).fFixed, (a_0r1.getD i_5.toNat (⟨(0 : Int), (0 : Int), false, false, false, false, (⟨#[]⟩ : ByteArray), (0 : Int)⟩ : SThing)).fSigns, (a_0r1.getD i_5.toNat (⟨(0 : Int), (0 : Int), false, false, false, false, (⟨#[]⟩ : ByteArray), (0 : Int)⟩ : SThing)).fWraps, (a_0r1.getD i_5.toNat (⟨(0 : Int), (0 : Int), false, false, false, false, (⟨#[]⟩ : ByteArray), (0 : Int)⟩ : SThing)).fValue, (a_0r1.getD i_5.toNat (⟨(0 : Int), (0 : Int), false, false, false, false, (⟨#[]⟩ : ByteArray), (0 : Int)⟩ : SThing)).fNext⟩ : SThing)))
      else none
    else
      some (k_1, a_0r1)
  | .c1 k_1 i_5 a_0r1 =>
    bif ((decide (0 ≤ i_5)) && (decide (i_5 < (a_0r1.length : Int)))) then
    k (.c2 (w64 (k_1 + 1)) i_5 (a_0r1.set i_5.toNat (⟨(a_0r1.getD i_5.toNat (⟨(0 : Int), (0 : Int), false, false, false, false, (⟨#[]⟩ : ByteArray), (0 : Int)⟩ : SThing)).fId, k_1, (a_0r1.getD i_5.toNat (⟨(0 : Int), (0 : Int), false, false, false, false, (⟨#[]⟩ : ByteArray), (0 : Int)⟩ : SThing)).fHidden, (a_0r1.getD i_5.toNat (⟨(0 : Int), (0 : Int), false, false, false, false, (⟨#[]⟩ : ByteArray), (0 : Int)⟩ : SThing)).fFixed, (a_0r1.getD i_5.toNat (⟨(0 : Int), (0 : Int), false, false, false, false, (⟨#[]⟩ : ByteArray), (0 : Int)⟩ : SThing)).fSigns, (a_0r1.getD i_5.toNat (⟨(0 : Int), (0 : Int), false, false, false, false, (⟨#[]⟩ : ByteArray), (0 : Int)⟩ : SThing)).fWraps, (a_0r1.getD i_5.toNat (⟨(0 : Int), (0 : Int), false, false, false, false, (⟨#[]⟩ : ByteArray), (0 : Int)⟩ : SThing)).fValue, (a_0r1.getD i_5.toNat (⟨(0 : Int), (0 : Int), false, false, false, false, (⟨#[]⟩ : ByteArray), (0 : Int)⟩ : SThing)).fNext⟩ : SThing)))
    else none
  | .c2 k_1 i_5 a_0r1 =>
    bif ((decide (0 ≤ i_5)) && (decide (i_5 < (a_0r1.length : Int)))) then
    k (.c3 (w64 (k_1 + 1)) i_5 (a_0r1.set i_5.toNat (⟨(a_0r1.getD i_5.toNat (⟨(0 : Int), (0 : Int), false, false, false, false, (⟨#[]⟩ : ByteArray), (0 : Int)⟩ : SThing)).fId, (a_0r1.getD i_5.toNat (⟨(0 : Int), (0 : Int), false, false, false, false, (⟨#[]⟩ : ByteArray), (0 : Int)⟩ : SThing)).fKind, ((k_1.tmod 3) == 0), (a_0r1.getD i_5.toNat (⟨(0 : Int), (0 : Int), false, false, false, false, (⟨#[]⟩ : ByteArray), (0 : Int)⟩ : SThing)).fFixed, (a_0r1.getD i_5.toNat (⟨(0 : Int), (0 : Int), false, false, false, false, (⟨#[]⟩ : ByteArray), (0 : Int)⟩ : SThing)).fSigns, (a_0r1.getD i_5.toNat (⟨(0 : Int), (0 : Int), false, false, false, false, (⟨#[]⟩ : ByteArray), (0 : Int)⟩ : SThing)).fWraps, (a_0r1.getD i_5.toNat (⟨(0 : Int), (0 : Int), false, false, false, false, (⟨#[]⟩ : ByteArray), (0 : Int)⟩ : SThing)).fValue, (a_0r1.getD i_5.toNat (⟨(0 : Int), (0 : Int), false, false, false, false, (⟨#[]⟩ : ByteArray), (0 : Int)⟩ : SThing)).fNext⟩ : SThing)))
    else none
  | .c3 k_1 i_5 a_0r1 =>
    bif ((decide (0 ≤ i_5)) && (decide (i_5 < (a_0r1.length : Int)))) then
    k (.c4 (w64 (k_1 + 1)) i_5 (a_0r1.set i_5.toNat (⟨(a_0r1.getD i_5.toNat (⟨(0 : Int), (0 : Int), false, false, false, false, (⟨#[]⟩ : ByteArray), (0 : Int)⟩ : SThing)).fId, (a_0r1.getD i_5.toNat (⟨(0 : Int), (0 : Int), false, false, false, false, (⟨#[]⟩ : ByteArray), (0 : Int)⟩ : SThing)).fKind, (a_0r1.getD i_5.toNat (⟨(0 : Int), (0 : Int), false, false, false, false, (⟨#[]⟩ : ByteArray), (0 : Int)⟩ : SThing)).fHidden, ((k_1.tmod 3) == 0), (a_0r1.getD i_5.toNat (⟨(0 : Int), (0 : Int), false, false, false, false, (⟨#[]⟩ : ByteArray), (0 : Int)⟩ : SThing)).fSigns, (a_0r1.getD i_5.toNat (⟨(0 : Int), (0 : Int), false, false, false, false, (⟨#[]⟩ : ByteArray), (0 : Int)⟩ : SThing)).fWraps, (a_0r1.getD i_5.toNat (⟨(0 : Int), (0 : Int), false, false, false, false, (⟨#[]⟩ : ByteArray), (0 : Int)⟩ : SThing)).fValue, (a_0r1.getD i_5.toNat (⟨(0 : Int), (0 : Int), false, false, false, false, (⟨#[]⟩ : ByteArray), (0 : Int)⟩ : SThing)).fNext⟩ : SThing)))
    else none
  | .c4 k_1 i_5 a_0r1 =>
    bif ((decide (0 ≤ i_5)) && (decide (i_5 < (a_0r1.length : Int)))) then
    k (.c5 (w64 (k_1 + 1)) i_5 (a_0r1.set i_5.toNat (⟨(a_0r1.getD i_5.toNat (⟨(0 : Int), (0 : Int), false, false, false, false, (⟨#[]⟩ : ByteArray), (0 : Int)⟩ : SThing)).fId, (a_0r1.getD i_5.toNat (⟨(0 : Int), (0 : Int), false, false, false, false, (⟨#[]⟩ : ByteArray), (0 : Int)⟩ : SThing)).fKind, (a_0r1.getD i_5.toNat (⟨(0 : Int), (0 : Int), false, false, false, false, (⟨#[]⟩ : ByteArray), (0 : Int)⟩ : SThing)).fHidden, (a_0r1.getD i_5.toNat (⟨(0 : Int), (0 : Int), false, false, false, false, (⟨#[]⟩ : ByteArray), (0 : Int)⟩ : SThing)).fFixed, ((k_1.tmod 3) == 0), (a_0r1.getD i_5.toNat (⟨(0 : Int), (0 : Int), false, false, false, false, (⟨#[]⟩ : ByteArray), (0 : Int)⟩ : SThing)).fWraps, (a_0r1.getD i_5.toNat (⟨(0 : Int), (0 : Int), false, false, false, false, (⟨#[]⟩ : ByteArray), (0 : Int)⟩ : SThing)).fValue, (a_0r1.getD i_5.toNat (⟨(0 : Int), (0 : Int), false, false, false, false, (⟨#[]⟩ : ByteArray), (0 : Int)⟩ : SThing)).fNext⟩ : SThing)))
    else none
  | .c5 k_1 i_5 a_0r1 =>
    bif ((decide (0 ≤ i_5)) && (decide (i_5 < (a_0r1.length : Int)))) then
    k (.c6 (w64 (k_1 + 1)) i_5 (a_0r1.set i_5.toNat (⟨(a_0r1.getD i_5.toNat (⟨(0 : Int), (0 : Int), false, false, false, false, (⟨#[]⟩ : ByteArray), (0 : Int)⟩ : SThing)).fId, (a_0r1.getD i_5.toNat (⟨(0 : Int), (0 : Int), false, false, false, false, (⟨#[]⟩ : ByteArray), (0 : Int)⟩ : SThing)).fKind, (a_0r1.getD i_5.toNat (⟨(0 : Int), (0 : Int), false, false, false, false, (⟨#[]⟩ : ByteArray), (0 : Int)⟩ : SThing)).fHidden, (a_0r1.getD i_5.toNat (⟨(0 : Int), (0 : Int), false, false, false, false, (⟨#[]⟩ : ByteArray), (0 : Int)⟩ : SThing)).fFixed, (a_0r1.getD i_5.toNat (⟨(0 : Int), (0 : Int), false, false, false, false, (⟨#[]⟩ : ByteArray), (0 : Int)⟩ : SThing)).fSigns, ((k_1.tmod 3) == 0), (a_0r1.getD i_5.toNat (⟨(0 : Int), (0 : Int), false, false, false, false, (⟨#[]⟩ : ByteArray), (0 : Int)⟩ : SThing)).fValue, (a_0r1.getD i_5.toNat (⟨(0 : Int), (0 : Int), false, false, false, false, (⟨#[]⟩ : ByteArray), (0 : Int)⟩ : SThing)).fNext⟩ : SThing)))
    else none
  | .c6 k_1 i_5 a_0r1 =>
    (laws_markText k_1).bind fun r0 =>
    bif ((decide (0 ≤ i_5)) && (decide (i_5 < (a_0r1.length : Int)))) then
    k (.c7 (w64 (k_1 + 1)) i_5 (a_0r1.set i_5.toNat (⟨(a_0r1.getD i_5.toNat (⟨(0 : Int), (0 : Int), false, false, false, false, (⟨#[]⟩ : ByteArray), (0 : Int)⟩ : SThing)).fId, (a_0r1.getD i_5.toNat (⟨(0 : Int), (0 : Int), false, false, false, false, (⟨#[]⟩ : ByteArray), (0 : Int)⟩ : SThing)).fKind, (a_0r1.getD i_5.toNat (⟨(0 : Int), (0 : Int), false, false, false, false, (⟨#[]⟩ : ByteArray), (0 : Int)⟩ : SThing)).fHidden, (a_0r1.getD i_5.toNat (⟨(0 : Int), (0 : Int), false, false, false, false, (⟨#[]⟩ : ByteArray), (0 : Int)⟩ : SThing)).fFixed, (a_0r1.getD i_5.toNat (⟨(0 : Int), (0 : Int), false, false, false, false, (⟨#[]⟩ : ByteArray), (0 : Int)⟩ : SThing)).fSigns, (a_0r1.getD i_5.toNat (⟨(0 : Int), (0 : Int), false, false, false, false, (⟨#[]⟩ : ByteArray), (0 : Int)⟩ : SThing)).fWraps, r0, (a_0r1.getD i_5.toNat (⟨(0 : Int), (0 : Int), false, false, false, false, (⟨#[]⟩ : ByteArray), (0 : Int)⟩ : SThing)).fNext⟩ : SThing)))
    else none
  | .c7 k_1 i_5 a_0r1 =>
    bif ((decide (0 ≤ i_5)) && (decide (i_5 < (a_0r1.length : Int)))) then
    k (.c0 (w64 (k_1 + 1)) (w64 (i_5 + 1)) (a_0r1.set i_5.toNat (⟨(a_0r1.getD i_5.toNat (⟨(0 : Int), (0 : Int), false, false, false, false, (⟨#[]⟩ : ByteArray), (0 : Int)⟩ : SThing)).fId, (a_0r1.getD i_5.toNat (⟨(0 : Int), (0 : Int), false, false, false, false, (⟨#[]⟩ : ByteArray), (0 : Int)⟩ : SThing)).fKind, (a_0r1.getD i_5.toNat (⟨(0 : Int), (0 : Int), false, false, false, false, (⟨#[]⟩ : ByteArray), (0 : Int)⟩ : SThing)).fHidden, (a_0r1.getD i_5.toNat (⟨(0 : Int), (0 : Int), false, false, false, false, (⟨#[]⟩ : ByteArray), (0 : Int)⟩ : SThing)).fFixed, (a_0r1.getD i_5.toNat (⟨(0 : Int), (0 : Int), false, false, false, false, (⟨#[]⟩ : ByteArray), (0 : Int)⟩ : SThing)).fSigns, (a_0r1.getD i_5.toNat (⟨(0 : Int), (0 : Int), false, false, false, false, (⟨#[]⟩ : ByteArray), (0 : Int)⟩ : SThing)).fWraps, (a_0r1.getD i_5.toNat (⟨(0 : Int), (0 : Int), false, false, false, false, (⟨#[]⟩ : ByteArray), (0 : Int)⟩ : SThing)).fValue, k_1⟩ : SThing)))
    else none
noncomputable def L_laws_markThingS : Nat → St_laws_markThingS → Option (Int × (List SThing))
  | 0, _ => none
  | m + 1, s => B_laws_markThingS laws_markText (L_laws_markThingS m) s
noncomputable def laws_markThingS (a_0 : (List SThing)) (k_1 : Int) : Option (Int × (List SThing)) := E_laws_markThingS laws_markText (L_laws_markThingS gas) a_0 k_1
theorem e_laws_markThingS (laws_markText : Int → Option ByteArray) : EntryIs ctx PP 86 [1] [(67, H_laws_markText laws_markText)] cv61 cv62 at_laws_markThingS (fun k a => E_laws_markThingS laws_markText k a.1 a.2) := fun stop a => by kernel_rfl
theorem b_laws_markThingS (laws_markText : Int → Option ByteArray) : CutIs ctx PP 86 Tryd.f86 [1] [(67, H_laws_markText laws_markText)] cv62 at_laws_markThingS (B_laws_markThingS laws_markText) := fun stop s => by cases s <;> kernel_rfl
theorem i_laws_markThingS : ∀ s s', at_laws_markThingS s = at_laws_markThingS s' → s = s' := by
  intro s s' h
  cases s with
  | c0 v0 v1 v2 => cases s' with
    | c0 w0 w1 w2 => cases h; rfl
    | c1 w0 w1 w2 => exact (region_ne 2 6 h (by kernel_rfl) (by kernel_rfl) rfl).elim
    | c2 w0 w1 w2 => exact (region_ne 2 8 h (by kernel_rfl) (by kernel_rfl) rfl).elim
    | c3 w0 w1 w2 => exact (region_ne 2 10 h (by kernel_rfl) (by kernel_rfl) rfl).elim
    | c4 w0 w1 w2 => exact (region_ne 2 12 h (by kernel_rfl) (by kernel_rfl) rfl).elim
    | c5 w0 w1 w2 => exact (region_ne 2 14 h (by kernel_rfl) (by kernel_rfl) rfl).elim
    | c6 w0 w1 w2 => exact (region_ne 2 16 h (by kernel_rfl) (by kernel_rfl) rfl).elim
    | c7 w0 w1 w2 => exact (region_ne 2 18 h (by kernel_rfl) (by kernel_rfl) rfl).elim
  | c1 v0 v1 v2 => cases s' with
    | c0 w0 w1 w2 => exact (region_ne 6 2 h (by kernel_rfl) (by kernel_rfl) rfl).elim
    | c1 w0 w1 w2 => cases h; rfl
    | c2 w0 w1 w2 => exact (region_ne 6 8 h (by kernel_rfl) (by kernel_rfl) rfl).elim
    | c3 w0 w1 w2 => exact (region_ne 6 10 h (by kernel_rfl) (by kernel_rfl) rfl).elim
    | c4 w0 w1 w2 => exact (region_ne 6 12 h (by kernel_rfl) (by kernel_rfl) rfl).elim
    | c5 w0 w1 w2 => exact (region_ne 6 14 h (by kernel_rfl) (by kernel_rfl) rfl).elim
    | c6 w0 w1 w2 => exact (region_ne 6 16 h (by kernel_rfl) (by kernel_rfl) rfl).elim
    | c7 w0 w1 w2 => exact (region_ne 6 18 h (by kernel_rfl) (by kernel_rfl) rfl).elim
  | c2 v0 v1 v2 => cases s' with
    | c0 w0 w1 w2 => exact (region_ne 8 2 h (by kernel_rfl) (by kernel_rfl) rfl).elim
    | c1 w0 w1 w2 => exact (region_ne 8 6 h (by kernel_rfl) (by kernel_rfl) rfl).elim
    | c2 w0 w1 w2 => cases h; rfl
    | c3 w0 w1 w2 => exact (region_ne 8 10 h (by kernel_rfl) (by kernel_rfl) rfl).elim
    | c4 w0 w1 w2 => exact (region_ne 8 12 h (by kernel_rfl) (by kernel_rfl) rfl).elim
    | c5 w0 w1 w2 => exact (region_ne 8 14 h (by kernel_rfl) (by kernel_rfl) rfl).elim
    | c6 w0 w1 w2 => exact (region_ne 8 16 h (by kernel_rfl) (by kernel_rfl) rfl).elim
    | c7 w0 w1 w2 => exact (region_ne 8 18 h (by kernel_rfl) (by kernel_rfl) rfl).elim
  | c3 v0 v1 v2 => cases s' with
    | c0 w0 w1 w2 => exact (region_ne 10 2 h (by kernel_rfl) (by kernel_rfl) rfl).elim
    | c1 w0 w1 w2 => exact (region_ne 10 6 h (by kernel_rfl) (by kernel_rfl) rfl).elim
    | c2 w0 w1 w2 => exact (region_ne 10 8 h (by kernel_rfl) (by kernel_rfl) rfl).elim
    | c3 w0 w1 w2 => cases h; rfl
    | c4 w0 w1 w2 => exact (region_ne 10 12 h (by kernel_rfl) (by kernel_rfl) rfl).elim
    | c5 w0 w1 w2 => exact (region_ne 10 14 h (by kernel_rfl) (by kernel_rfl) rfl).elim
    | c6 w0 w1 w2 => exact (region_ne 10 16 h (by kernel_rfl) (by kernel_rfl) rfl).elim
    | c7 w0 w1 w2 => exact (region_ne 10 18 h (by kernel_rfl) (by kernel_rfl) rfl).elim
  | c4 v0 v1 v2 => cases s' with
    | c0 w0 w1 w2 => exact (region_ne 12 2 h (by kernel_rfl) (by kernel_rfl) rfl).elim
    | c1 w0 w1 w2 => exact (region_ne 12 6 h (by kernel_rfl) (by kernel_rfl) rfl).elim
    | c2 w0 w1 w2 => exact (region_ne 12 8 h (by kernel_rfl) (by kernel_rfl) rfl).elim
    | c3 w0 w1 w2 => exact (region_ne 12 10 h (by kernel_rfl) (by kernel_rfl) rfl).elim
    | c4 w0 w1 w2 => cases h; rfl
    | c5 w0 w1 w2 => exact (region_ne 12 14 h (by kernel_rfl) (by kernel_rfl) rfl).elim
    | c6 w0 w1 w2 => exact (region_ne 12 16 h (by kernel_rfl) (by kernel_rfl) rfl).elim
    | c7 w0 w1 w2 => exact (region_ne 12 18 h (by kernel_rfl) (by kernel_rfl) rfl).elim
  | c5 v0 v1 v2 => cases s' with
    | c0 w0 w1 w2 => exact (region_ne 14 2 h (by kernel_rfl) (by kernel_rfl) rfl).elim
    | c1 w0 w1 w2 => exact (region_ne 14 6 h (by kernel_rfl) (by kernel_rfl) rfl).elim
    | c2 w0 w1 w2 => exact (region_ne 14 8 h (by kernel_rfl) (by kernel_rfl) rfl).elim
    | c3 w0 w1 w2 => exact (region_ne 14 10 h (by kernel_rfl) (by kernel_rfl) rfl).elim
    | c4 w0 w1 w2 => exact (region_ne 14 12 h (by kernel_rfl) (by kernel_rfl) rfl).elim
    | c5 w0 w1 w2 => cases h; rfl
    | c6 w0 w1 w2 => exact (region_ne 14 16 h (by kernel_rfl) (by kernel_rfl) rfl).elim
    | c7 w0 w1 w2 => exact (region_ne 14 18 h (by kernel_rfl) (by kernel_rfl) rfl).elim
  | c6 v0 v1 v2 => cases s' with
    | c0 w0 w1 w2 => exact (region_ne 16 2 h (by kernel_rfl) (by kernel_rfl) rfl).elim
    | c1 w0 w1 w2 => exact (region_ne 16 6 h (by kernel_rfl) (by kernel_rfl) rfl).elim
    | c2 w0 w1 w2 => exact (region_ne 16 8 h (by kernel_rfl) (by kernel_rfl) rfl).elim
    | c3 w0 w1 w2 => exact (region_ne 16 10 h (by kernel_rfl) (by kernel_rfl) rfl).elim
    | c4 w0 w1 w2 => exact (region_ne 16 12 h (by kernel_rfl) (by kernel_rfl) rfl).elim
    | c5 w0 w1 w2 => exact (region_ne 16 14 h (by kernel_rfl) (by kernel_rfl) rfl).elim
    | c6 w0 w1 w2 => cases h; rfl
    | c7 w0 w1 w2 => exact (region_ne 16 18 h (by kernel_rfl) (by kernel_rfl) rfl).elim
  | c7 v0 v1 v2 => cases s' with
    | c0 w0 w1 w2 => exact (region_ne 18 2 h (by kernel_rfl) (by kernel_rfl) rfl).elim
    | c1 w0 w1 w2 => exact (region_ne 18 6 h (by kernel_rfl) (by kernel_rfl) rfl).elim
    | c2 w0 w1 w2 => exact (region_ne 18 8 h (by kernel_rfl) (by kernel_rfl) rfl).elim
    | c3 w0 w1 w2 => exact (region_ne 18 10 h (by kernel_rfl) (by kernel_rfl) rfl).elim
    | c4 w0 w1 w2 => exact (region_ne 18 12 h (by kernel_rfl) (by kernel_rfl) rfl).elim
    | c5 w0 w1 w2 => exact (region_ne 18 14 h (by kernel_rfl) (by kernel_rfl) rfl).elim
    | c6 w0 w1 w2 => exact (region_ne 18 16 h (by kernel_rfl) (by kernel_rfl) rfl).elim
    | c7 w0 w1 w2 => cases h; rfl
theorem ok_laws_markThingS : Tells ctx PP 86 cv61 cv62 (fun a => laws_markThingS a.1 a.2) := fn_ok (hl_cons h_laws_markText hl_nil) Tryd.func86 i_laws_markThingS (fun _ => rfl) (fun _ _ => rfl) (b_laws_markThingS laws_markText) (e_laws_markThingS laws_markText) gas
noncomputable def H_laws_markThingS {γ : Type} (F : (List SThing) → Int → Option (Int × (List SThing))) : Hd ctx γ := hdl cv61.dec (fun a => F a.1 a.2) cv62.enc
theorem h_laws_markThingS {γ : Type} : HdOk (γ := γ) PP 86 (H_laws_markThingS laws_markThingS) := hd_ok ok_laws_markThingS
noncomputable def E_laws_markBook (laws_markThingS : (List SThing) → Int → Option (Int × (List SThing))) (a_0 : SBook) (k_1 : Int) : Option (Int × (List SThing)) :=
  (laws_markThingS a_0.fThings k_1).bind fun r0 =>
  some (r0.1, r0.2)
noncomputable def laws_markBook (a_0 : SBook) (k_1 : Int) : Option (Int × (List SThing)) := E_laws_markBook laws_markThingS a_0 k_1
theorem e_laws_markBook (laws_markThingS : (List SThing) → Int → Option (Int × (List SThing))) : EntryIs0 ctx PP 33 [1] [(86, H_laws_markThingS laws_markThingS)] cv63 cv64 (fun a => E_laws_markBook laws_markThingS a.1 a.2) := fun a => by kernel_rfl
theorem ok_laws_markBook : Tells ctx PP 33 cv63 cv64 (fun a => laws_markBook a.1 a.2) := fn_ok0 (hl_cons h_laws_markThingS hl_nil) Tryd.func33 (e_laws_markBook laws_markThingS)
noncomputable def H_laws_markBook {γ : Type} (F : SBook → Int → Option (Int × (List SThing))) : Hd ctx γ := hdl cv63.dec (fun a => F a.1 a.2) cv64.enc
theorem h_laws_markBook {γ : Type} : HdOk (γ := γ) PP 33 (H_laws_markBook laws_markBook) := hd_ok ok_laws_markBook
noncomputable def todo_laws_heldThingS_0 : List Go.Item := [.code (cAt (bodyOf Tryd.f87) [1, 0, 1, 0, 0, 0, 0]), .code (cAt (bodyOf Tryd.f87) [1, 0, 1, 0, 0, 0, 1]), .code (cAt (bodyOf Tryd.f87) [1, 0, 1, 0, 0, 1]), .inLoop (cAt (bodyOf Tryd.f87) [1, 0, 1, 0, 0]), .inBlock 0, .code (cAt (bodyOf Tryd.f87) [1, 1])]
inductive St_laws_heldThingS where
  | c0 (a_0 : (List SThing)) (k_1 : Int) (i_5 : Int)
noncomputable def at_laws_heldThingS : St_laws_heldThingS → LI
  | .c0 a_0 k_1 i_5 => (todo_laws_heldThingS_0, [(0, [.one (.rsl 33 a_0)]), (1, [.one (.int .i64 k_1)]), (5, [.one (.int .i64 i_5)])], [])
noncomputable def E_laws_heldThingS (laws_markText : Int → Option ByteArray) (k : St_laws_heldThingS → Option Int) (a_0 : (List SThing)) (k_1 : Int) : Option Int :=
  k (.c0 a_0 k_1 (0 : Int))
noncomputable def B_laws_heldThingS (laws_markText : Int → Option ByteArray) (k : St_laws_heldThingS → Option Int) : St_laws_heldThingS → Option Int
  | .c0 a_0 k_1 i_5 =>
    bif (decide (i_5 < (a_0.length : Int))) then
      bif ((decide (0 ≤ i_5)) && (decide (i_5 < (a_0.length : Int)))) then
      bif ((a_0.getD i_5.toNat (⟨(0 : Int), (0 : Int), false, false, false, false, (⟨#[]⟩ : ByteArray), (0 : Int)⟩ : SThing)).fId != k_1) then
        some (-(1 : Int))
      else
        bif ((decide (0 ≤ i_5)) && (decide (i_5 < (a_0.length : Int)))) then
        bif ((a_0.getD i_5.toNat (⟨(0 : Int), (0 : Int), false, false, false, false, (⟨#[]⟩ : ByteArray), (0 : Int)⟩ : SThing)).fKind != (w64 (k_1 + 1))) then
          some (-(1 : Int))
        else
          bif ((decide (0 ≤ i_5)) && (decide (i_5 < (a_0.length : Int)))) then
          bif (!((a_0.getD i_5.toNat (⟨(0 : Int), (0 : Int), false, false, false, false, (⟨#[]⟩ : ByteArray), (0 : Int)⟩ : SThing)).fHidden == (((w64 ((w64 (k_1 + 1)) + 1)).tmod 3) == 0))) then
            some (-(1 : Int))
          else
            bif ((decide (0 ≤ i_5)) && (decide (i_5 < (a_0.length : Int)))) then
            bif (!((a_0.getD i_5.toNat (⟨(0 : Int), (0 : Int), false, false, false, false, (⟨#[]⟩ : ByteArray), (0 : Int)⟩ : SThing)).fFixed == (((w64 ((w64 ((w64 (k_1 + 1)) + 1)) + 1)).tmod 3) == 0))) then
              some (-(1 : Int))
            else
              bif ((decide (0 ≤ i_5)) && (decide (i_5 < (a_0.length : Int)))) then
              bif (!((a_0.getD i_5.toNat (⟨(0 : Int), (0 : Int), false, false, false, false, (⟨#[]⟩ : ByteArray), (0 : Int)⟩ : SThing)).fSigns == (((w64 ((w64 ((w64 ((w64 (k_1 + 1)) + 1)) + 1)) + 1)).tmod 3) == 0))) then
                some (-(1 : Int))
              else
                bif ((decide (0 ≤ i_5)) && (decide (i_5 < (a_0.length : Int)))) then
                bif (!((a_0.getD i_5.toNat (⟨(0 : Int), (0 : Int), false, false, false, false, (⟨#[]⟩ : ByteArray), (0 : Int)⟩ : SThing)).fWraps == (((w64 ((w64 ((w64 ((w64 ((w64 (k_1 + 1)) + 1)) + 1)) + 1)) + 1)).tmod 3) == 0))) then
                  some (-(1 : Int))
                else
                  bif ((decide (0 ≤ i_5)) && (decide (i_5 < (a_0.length : Int)))) then
                  (laws_markText (w64 ((w64 ((w64 ((w64 ((w64 ((w64 (k_1 + 1)) + 1)) + 1)) + 1)) + 1)) + 1))).bind fun r0 =>
                  bif (!((ByteArray.toList (a_0.getD i_5.toNat (⟨(0 : Int), (0 : Int), false, false, false, false, (⟨#[]⟩ : ByteArray), (0 : Int)⟩ : SThing)).fValue) == (ByteArray.toList r0))) then
                    some (-(1 : Int))
                  else
                    bif ((decide (0 ≤ i_5)) && (decide (i_5 < (a_0.length : Int)))) then
                    bif ((a_0.getD i_5.toNat (⟨(0 : Int), (0 : Int), false, false, false, false, (⟨#[]⟩ : ByteArray), (0 : Int)⟩ : SThing)).fNext != (w64 ((w64 ((w64 ((w64 ((w64 ((w64 ((w64 (k_1 + 1)) + 1)) + 1)) + 1)) + 1)) + 1)) + 1))) then
                      some (-(1 : Int))
                    else
                      k (.c0 a_0 (w64 ((w64 ((w64 ((w64 ((w64 ((w64 ((w64 ((w64 (k_1 + 1)) + 1)) + 1)) + 1)) + 1)) + 1)) + 1)) + 1)) (w64 (i_5 + 1)))
                    else none
                  else none
                else none
              else none
            else none
          else none
        else none
      else none
    else
      some k_1
noncomputable def L_laws_heldThingS : Nat → St_laws_heldThingS → Option Int
  | 0, _ => none
  | m + 1, s => B_laws_heldThingS laws_markText (L_laws_heldThingS m) s
noncomputable def laws_heldThingS (a_0 : (List SThing)) (k_1 : Int) : Option Int := E_laws_heldThingS laws_markText (L_laws_heldThingS gas) a_0 k_1
theorem e_laws_heldThingS (laws_markText : Int → Option ByteArray) : EntryIs ctx PP 87 [] [(67, H_laws_markText laws_markText)] cv65 cv0 at_laws_heldThingS (fun k a => E_laws_heldThingS laws_markText k a.1 a.2) := fun stop a => by kernel_rfl
theorem b_laws_heldThingS (laws_markText : Int → Option ByteArray) : CutIs ctx PP 87 Tryd.f87 [] [(67, H_laws_markText laws_markText)] cv0 at_laws_heldThingS (B_laws_heldThingS laws_markText) := fun stop s => by cases s <;> kernel_rfl
theorem i_laws_heldThingS : ∀ s s', at_laws_heldThingS s = at_laws_heldThingS s' → s = s' := by
  intro s s' h
  cases s with
  | c0 v0 v1 v2 => cases s' with
    | c0 w0 w1 w2 => cases h; rfl
theorem ok_laws_heldThingS : Tells ctx PP 87 cv65 cv0 (fun a => laws_heldThingS a.1 a.2) := fn_ok (hl_cons h_laws_markText hl_nil) Tryd.func87 i_laws_heldThingS (fun _ => rfl) (fun _ _ => rfl) (b_laws_heldThingS laws_markText) (e_laws_heldThingS laws_markText) gas
noncomputable def H_laws_heldThingS {γ : Type} (F : (List SThing) → Int → Option Int) : Hd ctx γ := hdl cv65.dec (fun a => F a.1 a.2) cv0.enc
theorem h_laws_heldThingS {γ : Type} : HdOk (γ := γ) PP 87 (H_laws_heldThingS laws_heldThingS) := hd_ok ok_laws_heldThingS
noncomputable def E_laws_heldBook (laws_heldThingS : (List SThing) → Int → Option Int) (a_0 : SBook) (k_1 : Int) : Option Int :=
  (laws_heldThingS a_0.fThings k_1).bind fun r0 =>
  bif (decide (r0 < 0)) then
    some (-(1 : Int))
  else
    some r0
noncomputable def laws_heldBook (a_0 : SBook) (k_1 : Int) : Option Int := E_laws_heldBook laws_heldThingS a_0 k_1
theorem e_laws_heldBook (laws_heldThingS : (List SThing) → Int → Option Int) : EntryIs0 ctx PP 34 [] [(87, H_laws_heldThingS laws_heldThingS)] cv43 cv0 (fun a => E_laws_heldBook laws_heldThingS a.1 a.2) := fun a => by kernel_rfl
theorem ok_laws_heldBook : Tells ctx PP 34 cv43 cv0 (fun a => laws_heldBook a.1 a.2) := fn_ok0 (hl_cons h_laws_heldThingS hl_nil) Tryd.func34 (e_laws_heldBook laws_heldThingS)
noncomputable def H_laws_heldBook {γ : Type} (F : SBook → Int → Option Int) : Hd ctx γ := hdl cv43.dec (fun a => F a.1 a.2) cv0.enc
theorem h_laws_heldBook {γ : Type} : HdOk (γ := γ) PP 34 (H_laws_heldBook laws_heldBook) := hd_ok ok_laws_heldBook
noncomputable def E_laws_FnExactEnter (laws_szBook : SBook → Int → Option Int) (laws_szRec : SRec → Int → Option Int) (laws_toBook : SBook → Option SBook) (laws_toRec : SRec → Option SRec) (spec_Enter : SBook → SRec → Option (SBook × Bool)) (impl_Enter : SBook → SRec → Option (SBook × Bool)) (laws_eqBook : SBook → SBook → Option Bool) (laws_markBook : SBook → Int → Option (Int × (List SThing))) (laws_heldBook : SBook → Int → Option Int) (aB_0 : SBook) (aR_1 : SRec) : Option Bool :=
  (laws_szBook aB_0 (1048576 : Int)).bind fun r0 =>
  bif (decide (r0 < 0)) then
    some true
  else
    (laws_szRec aR_1 r0).bind fun r1 =>
    bif (decide (r1 < 0)) then
      some true
    else
      (laws_toBook aB_0).bind fun r2 =>
      (laws_toRec aR_1).bind fun r3 =>
      (spec_Enter r2 r3).bind fun r4 =>
      (laws_toBook aB_0).bind fun r5 =>
      (laws_toRec aR_1).bind fun r6 =>
      (impl_Enter r5 r6).bind fun r7 =>
      (laws_eqBook r7.1 r4.1).bind fun r8 =>
      bif (!r8) then
        some false
      else
        bif (!(r7.2 == r4.2)) then
          some false
        else
          (laws_toBook aB_0).bind fun r9 =>
          (laws_eqBook r5 r9).bind fun r10 =>
          bif (!r10) then
            some false
          else
            (laws_markBook r5 (1 : Int)).bind fun r11 =>
            bif (decide (r11.1 < 0)) then
              some false
            else
              (laws_eqBook r7.1 r4.1).bind fun r12 =>
              bif (!r12) then
                some false
              else
                bif (!(r7.2 == r4.2)) then
                  some false
                else
                  (laws_markBook r7.1 (1 : Int)).bind fun r13 =>
                  (laws_heldBook (⟨r7.1.fWord, r7.1.fTries, r13.2, r7.1.fLast, r7.1.fChain, r7.1.fCount⟩ : SBook) (1 : Int)).bind fun r14 =>
                  bif (decide (r14 < 0)) then
                    some false
                  else
                    bif (r14 != r13.1) then
                      some false
                    else
                      (laws_toBook aB_0).bind fun r15 =>
                      (laws_toRec aR_1).bind fun r16 =>
                      (impl_Enter r15 r16).bind fun r17 =>
                      (laws_eqBook r17.1 r4.1).bind fun r18 =>
                      bif (!r18) then
                        some false
                      else
                        bif (!(r17.2 == r4.2)) then
                          some false
                        else
                          (laws_heldBook (⟨r7.1.fWord, r7.1.fTries, r13.2, r7.1.fLast, r7.1.fChain, r7.1.fCount⟩ : SBook) (1 : Int)).bind fun r19 =>
                          bif (decide (r19 < 0)) then
                            some false
                          else
                            bif (r19 != r13.1) then
                              some false
                            else
                              some true
noncomputable def laws_FnExactEnter (aB_0 : SBook) (aR_1 : SRec) : Option Bool := E_laws_FnExactEnter laws_szBook laws_szRec laws_toBook laws_toRec spec_Enter impl_Enter laws_eqBook laws_markBook laws_heldBook aB_0 aR_1
theorem e_laws_FnExactEnter (laws_szBook : SBook → Int → Option Int) (laws_szRec : SRec → Int → Option Int) (laws_toBook : SBook → Option SBook) (laws_toRec : SRec → Option SRec) (spec_Enter : SBook → SRec → Option (SBook × Bool)) (impl_Enter : SBook → SRec → Option (SBook × Bool)) (laws_eqBook : SBook → SBook → Option Bool) (laws_markBook : SBook → Int → Option (Int × (List SThing))) (laws_heldBook : SBook → Int → Option Int) : EntryIs0 ctx PP 7 [] [(28, H_laws_szBook laws_szBook), (16, H_laws_szRec laws_szRec), (30, H_laws_toBook laws_toBook), (18, H_laws_toRec laws_toRec), (29, H_spec_Enter spec_Enter), (31, H_impl_Enter impl_Enter), (32, H_laws_eqBook laws_eqBook), (33, H_laws_markBook laws_markBook), (34, H_laws_heldBook laws_heldBook)] cv66 cv3 (fun a => E_laws_FnExactEnter laws_szBook laws_szRec laws_toBook laws_toRec spec_Enter impl_Enter laws_eqBook laws_markBook laws_heldBook a.1 a.2) := fun a => by kernel_rfl
theorem ok_laws_FnExactEnter : Tells ctx PP 7 cv66 cv3 (fun a => laws_FnExactEnter a.1 a.2) := fn_ok0 (hl_cons h_laws_szBook (hl_cons h_laws_szRec (hl_cons h_laws_toBook (hl_cons h_laws_toRec (hl_cons h_spec_Enter (hl_cons h_impl_Enter (hl_cons h_laws_eqBook (hl_cons h_laws_markBook (hl_cons h_laws_heldBook hl_nil))))))))) Tryd.func7 (e_laws_FnExactEnter laws_szBook laws_szRec laws_toBook laws_toRec spec_Enter impl_Enter laws_eqBook laws_markBook laws_heldBook)
noncomputable def H_laws_FnExactEnter {γ : Type} (F : SBook → SRec → Option Bool) : Hd ctx γ := hdl cv66.dec (fun a => F a.1 a.2) cv3.enc
theorem h_laws_FnExactEnter {γ : Type} : HdOk (γ := γ) PP 7 (H_laws_FnExactEnter laws_FnExactEnter) := hd_ok ok_laws_FnExactEnter
end Go.Proofs.YtldjkjjfoofccaaDoor.G
