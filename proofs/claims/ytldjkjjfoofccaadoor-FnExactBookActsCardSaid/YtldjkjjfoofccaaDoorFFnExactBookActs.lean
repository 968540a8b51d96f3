/- Functions of the program, told by plain functions: part 1 of 1. -/
import Derived.Test.YtldjkjjfoofccaaDoorCtx
namespace Go.Proofs.YtldjkjjfoofccaaDoor.G
open Go Go.Ev
noncomputable def E_laws_szThing  (a_0 : SThing) (left_1 : Int) : Option Int :=
  bif (decide ((w64 (left_1 - (a_0.fValue.size : Int))) < 0)) then
    some (-(1 : Int))
  else
    some (w64 (left_1 - (a_0.fValue.size : Int)))
noncomputable def laws_szThing (a_0 : SThing) (left_1 : Int) : Option Int := E_laws_szThing  a_0 left_1
theorem e_laws_szThing  : EntryIs0 ctx PP 58 [] [] cv24 cv0 (fun a => E_laws_szThing  a.1 a.2) := fun a => by kernel_rfl
theorem ok_laws_szThing : Tells ctx PP 58 cv24 cv0 (fun a => laws_szThing a.1 a.2) := fn_ok0 hl_nil Tryd.func58 (e_laws_szThing )
noncomputable def H_laws_szThing {γ : Type} (F : SThing → Int → Option Int) : Hd ctx γ := hdl cv24.dec (fun a => F a.1 a.2) cv0.enc
theorem h_laws_szThing {γ : Type} : HdOk (γ := γ) PP 58 (H_laws_szThing laws_szThing) := hd_ok ok_laws_szThing
noncomputable def E_laws_szRec (laws_szThing : SThing → Int → Option Int) (a_0 : SRec) (left_1 : Int) : Option Int :=
  bif (decide ((w64 (left_1 - (a_0.fText.size : Int))) < 0)) then
    some (-(1 : Int))
  else
    (laws_szThing a_0.fThing (w64 (left_1 - (a_0.fText.size : Int)))).bind fun r0 =>
    bif (decide (r0 < 0)) then
      some (-(1 : Int))
    else
      some r0
noncomputable def laws_szRec (a_0 : SRec) (left_1 : Int) : Option Int := E_laws_szRec laws_szThing a_0 left_1
theorem e_laws_szRec (laws_szThing : SThing → Int → Option Int) : EntryIs0 ctx PP 16 [] [(58, H_laws_szThing laws_szThing)] cv25 cv0 (fun a => E_laws_szRec laws_szThing a.1 a.2) := fun a => by kernel_rfl
theorem ok_laws_szRec : Tells ctx PP 16 cv25 cv0 (fun a => laws_szRec a.1 a.2) := fn_ok0 (hl_cons h_laws_szThing hl_nil) Tryd.func16 (e_laws_szRec laws_szThing)
noncomputable def H_laws_szRec {γ : Type} (F : SRec → Int → Option Int) : Hd ctx γ := hdl cv25.dec (fun a => F a.1 a.2) cv0.enc
theorem h_laws_szRec {γ : Type} : HdOk (γ := γ) PP 16 (H_laws_szRec laws_szRec) := hd_ok ok_laws_szRec
noncomputable def E_laws_toThing  (a_0 : SThing) : Option SThing :=
  some a_0
noncomputable def laws_toThing (a_0 : SThing) : Option SThing := E_laws_toThing  a_0
theorem e_laws_toThing  : EntryIs0 ctx PP 62 [] [] cv26 cv26 (fun a => E_laws_toThing  a) := fun a => by kernel_rfl
theorem ok_laws_toThing : Tells ctx PP 62 cv26 cv26 (fun a => laws_toThing a) := fn_ok0 hl_nil Tryd.func62 (e_laws_toThing )
noncomputable def H_laws_toThing {γ : Type} (F : SThing → Option SThing) : Hd ctx γ := hdl cv26.dec (fun a => F a) cv26.enc
theorem h_laws_toThing {γ : Type} : HdOk (γ := γ) PP 62 (H_laws_toThing laws_toThing) := hd_ok ok_laws_toThing
noncomputable def E_laws_toRec (laws_toThing : SThing → Option SThing) (a_0 : SRec) : Option SRec :=
  (laws_toThing a_0.fThing).bind fun r0 =>
  some (⟨a_0.fKind, a_0.fText, a_0.fNum, r0⟩ : SRec)
noncomputable def laws_toRec (a_0 : SRec) : Option SRec := E_laws_toRec laws_toThing a_0
theorem e_laws_toRec (laws_toThing : SThing → Option SThing) : EntryIs0 ctx PP 18 [] [(62, H_laws_toThing laws_toThing)] cv27 cv27 (fun a => E_laws_toRec laws_toThing a) := fun a => by kernel_rfl
theorem ok_laws_toRec : Tells ctx PP 18 cv27 cv27 (fun a => laws_toRec a) := fn_ok0 (hl_cons h_laws_toThing hl_nil) Tryd.func18 (e_laws_toRec laws_toThing)
noncomputable def H_laws_toRec {γ : Type} (F : SRec → Option SRec) : Hd ctx γ := hdl cv27.dec (fun a => F a) cv27.enc
theorem h_laws_toRec {γ : Type} : HdOk (γ := γ) PP 18 (H_laws_toRec laws_toRec) := hd_ok ok_laws_toRec
noncomputable def E_spec_l01In  (x_0 : Int) (least_1 : Int) (most_2 : Int) : Option Bool :=
  bif (decide (x_0 ≥ least_1)) then
    some (decide (x_0 ≤ most_2))
  else
    some false
noncomputable def spec_l01In (x_0 : Int) (least_1 : Int) (most_2 : Int) : Option Bool := E_spec_l01In  x_0 least_1 most_2
theorem e_spec_l01In  : EntryIs0 ctx PP 60 [] [] cv2 cv3 (fun a => E_spec_l01In  a.1 a.2.1 a.2.2) := fun a => by kernel_rfl
theorem ok_spec_l01In : Tells ctx PP 60 cv2 cv3 (fun a => spec_l01In a.1 a.2.1 a.2.2) := fn_ok0 hl_nil Tryd.func60 (e_spec_l01In )
noncomputable def H_spec_l01In {γ : Type} (F : Int → Int → Int → Option Bool) : Hd ctx γ := hdl cv2.dec (fun a => F a.1 a.2.1 a.2.2) cv3.enc
theorem h_spec_l01In {γ : Type} : HdOk (γ := γ) PP 60 (H_spec_l01In spec_l01In) := hd_ok ok_spec_l01In
noncomputable def todo_spec_l01Var_0 : List Go.Item := [.code (cAt (bodyOf Tryd.f50) [1, 1, 0, 0, 0, 0, 0]), .code (cAt (bodyOf Tryd.f50) [1, 1, 0, 0, 0, 0, 1]), .code (cAt (bodyOf Tryd.f50) [1, 1, 0, 0, 0, 1]), .inLoop (cAt (bodyOf Tryd.f50) [1, 1, 0, 0, 0]), .inBlock 0, .code (cAt (bodyOf Tryd.f50) [1, 1, 1])]
inductive St_spec_l01Var where
  | c0 (n_0 : Int) (out_3 : (List Int))
noncomputable def at_spec_l01Var : St_spec_l01Var → LI
  | .c0 n_0 out_3 => (todo_spec_l01Var_0, [(0, [.one (.int .i64 n_0)]), (3, [.one (.own 240)])], [(240, .sl 5 out_3)])
noncomputable def E_spec_l01Var  (k : St_spec_l01Var → Option ByteArray) (n_0 : Int) : Option ByteArray :=
  k (.c0 n_0 [])
noncomputable def B_spec_l01Var  (k : St_spec_l01Var → Option ByteArray) : St_spec_l01Var → Option ByteArray
  | .c0 n_0 out_3 =>
    bif (decide (n_0 > 127)) then
      bif (decide (((out_3.length + 1) * 1) ≤ 140737488355328)) then
      k (.c0 (w64 (n_0.tdiv 128)) (out_3 ++ [(w8 (w64 ((n_0.tmod 128) + 128)))]))
      else none
    else
      bif (decide (((out_3.length + 1) * 1) ≤ 140737488355328)) then
      some (ofBytes (out_3 ++ [(w8 n_0)]))
      else none
noncomputable def L_spec_l01Var : Nat → St_spec_l01Var → Option ByteArray
  | 0, _ => none
  | m + 1, s => B_spec_l01Var  (L_spec_l01Var m) s
noncomputable def spec_l01Var (n_0 : Int) : Option ByteArray := E_spec_l01Var  (L_spec_l01Var gas) n_0
theorem e_spec_l01Var  : EntryIs ctx PP 50 [] [] cv0 cv1 at_spec_l01Var (fun k a => E_spec_l01Var  k a) := fun stop a => by kernel_rfl
theorem b_spec_l01Var  : CutIs ctx PP 50 Tryd.f50 [] [] cv1 at_spec_l01Var (B_spec_l01Var ) := fun stop s => by cases s <;> kernel_rfl
theorem i_spec_l01Var : ∀ s s', at_spec_l01Var s = at_spec_l01Var s' → s = s' := by
  intro s s' h
  cases s with
  | c0 v0 v1 => cases s' with
    | c0 w0 w1 => cases h; rfl
theorem ok_spec_l01Var : Tells ctx PP 50 cv0 cv1 (fun a => spec_l01Var a) := fn_ok hl_nil Tryd.func50 i_spec_l01Var (fun _ => rfl) (fun _ _ => rfl) (b_spec_l01Var ) (e_spec_l01Var ) gas
noncomputable def H_spec_l01Var {γ : Type} (F : Int → Option ByteArray) : Hd ctx γ := hdl cv0.dec (fun a => F a) cv1.enc
theorem h_spec_l01Var {γ : Type} : HdOk (γ := γ) PP 50 (H_spec_l01Var spec_l01Var) := hd_ok ok_spec_l01Var
noncomputable def E_spec_ThingOk (spec_l01In : Int → Int → Int → Option Bool) (x_0 : SThing) : Option Bool :=
  (spec_l01In x_0.fId (1 : Int) (1000 : Int)).bind fun r0 =>
  bif (!r0) then
    some false
  else
    (spec_l01In x_0.fKind (1 : Int) (3 : Int)).bind fun r1 =>
    bif (!r1) then
      some false
    else
      (spec_l01In x_0.fNext (0 : Int) (16 : Int)).bind fun r2 =>
      bif (!r2) then
        some false
      else
        bif (x_0.fKind != 2) then
          bif (x_0.fNext != 0) then
            some false
          else
            bif x_0.fSigns then
              some false
            else
              bif (x_0.fKind != 1) then
                bif x_0.fWraps then
                  some false
                else
                  bif (x_0.fKind == 3) then
                    some (decide ((x_0.fValue.size : Int) ≤ 100))
                  else
                    some ((x_0.fValue.size : Int) == 32)
              else
                bif (x_0.fKind == 3) then
                  some (decide ((x_0.fValue.size : Int) ≤ 100))
                else
                  some ((x_0.fValue.size : Int) == 32)
        else
          bif (x_0.fKind != 1) then
            bif x_0.fWraps then
              some false
            else
              bif (x_0.fKind == 3) then
                some (decide ((x_0.fValue.size : Int) ≤ 100))
              else
                some ((x_0.fValue.size : Int) == 32)
          else
            bif (x_0.fKind == 3) then
              some (decide ((x_0.fValue.size : Int) ≤ 100))
            else
              some ((x_0.fValue.size : Int) == 32)
noncomputable def spec_ThingOk (x_0 : SThing) : Option Bool := E_spec_ThingOk spec_l01In x_0
theorem e_spec_ThingOk (spec_l01In : Int → Int → Int → Option Bool) : EntryIs0 ctx PP 127 [] [(60, H_spec_l01In spec_l01In)] cv26 cv3 (fun a => E_spec_ThingOk spec_l01In a) := fun a => by kernel_rfl
theorem ok_spec_ThingOk : Tells ctx PP 127 cv26 cv3 (fun a => spec_ThingOk a) := fn_ok0 (hl_cons h_spec_l01In hl_nil) Tryd.func127 (e_spec_ThingOk spec_l01In)
noncomputable def H_spec_ThingOk {γ : Type} (F : SThing → Option Bool) : Hd ctx γ := hdl cv26.dec (fun a => F a) cv3.enc
theorem h_spec_ThingOk {γ : Type} : HdOk (γ := γ) PP 127 (H_spec_ThingOk spec_ThingOk) := hd_ok ok_spec_ThingOk
noncomputable def E_spec_l19Flag  (x_0 : Bool) (n_1 : Int) : Option Int :=
  bif x_0 then
    some n_1
  else
    some (0 : Int)
noncomputable def spec_l19Flag (x_0 : Bool) (n_1 : Int) : Option Int := E_spec_l19Flag  x_0 n_1
theorem e_spec_l19Flag  : EntryIs0 ctx PP 155 [] [] cv28 cv0 (fun a => E_spec_l19Flag  a.1 a.2) := fun a => by kernel_rfl
theorem ok_spec_l19Flag : Tells ctx PP 155 cv28 cv0 (fun a => spec_l19Flag a.1 a.2) := fn_ok0 hl_nil Tryd.func155 (e_spec_l19Flag )
noncomputable def H_spec_l19Flag {γ : Type} (F : Bool → Int → Option Int) : Hd ctx γ := hdl cv28.dec (fun a => F a.1 a.2) cv0.enc
theorem h_spec_l19Flag {γ : Type} : HdOk (γ := γ) PP 155 (H_spec_l19Flag spec_l19Flag) := hd_ok ok_spec_l19Flag
noncomputable def E_spec_l06Byte  (n_0 : Int) : Option ByteArray :=
  bif (decide ((n_0.tmod 256) < 0)) then
    some (ofBytes [(w8 (w64 ((n_0.tmod 256) + 256)))])
  else
    some (ofBytes [(w8 (n_0.tmod 256))])
noncomputable def spec_l06Byte (n_0 : Int) : Option ByteArray := E_spec_l06Byte  n_0
theorem e_spec_l06Byte  : EntryIs0 ctx PP 152 [] [] cv0 cv1 (fun a => E_spec_l06Byte  a) := fun a => by kernel_rfl
theorem ok_spec_l06Byte : Tells ctx PP 152 cv0 cv1 (fun a => spec_l06Byte a) := fn_ok0 hl_nil Tryd.func152 (e_spec_l06Byte )
noncomputable def H_spec_l06Byte {γ : Type} (F : Int → Option ByteArray) : Hd ctx γ := hdl cv0.dec (fun a => F a) cv1.enc
theorem h_spec_l06Byte {γ : Type} : HdOk (γ := γ) PP 152 (H_spec_l06Byte spec_l06Byte) := hd_ok ok_spec_l06Byte
noncomputable def E_spec_l19Short (spec_l01Var : Int → Option ByteArray) (s_0 : ByteArray) : Option ByteArray :=
  (spec_l01Var (s_0.size : Int)).bind fun r0 =>
  bif (decide ((r0.size + s_0.size) ≤ 9223372036854775807)) then
  some (r0 ++ s_0)
  else none
noncomputable def spec_l19Short (s_0 : ByteArray) : Option ByteArray := E_spec_l19Short spec_l01Var s_0
theorem e_spec_l19Short (spec_l01Var : Int → Option ByteArray) : EntryIs0 ctx PP 156 [] [(50, H_spec_l01Var spec_l01Var)] cv1 cv1 (fun a => E_spec_l19Short spec_l01Var a) := fun a => by kernel_rfl
theorem ok_spec_l19Short : Tells ctx PP 156 cv1 cv1 (fun a => spec_l19Short a) := fn_ok0 (hl_cons h_spec_l01Var hl_nil) Tryd.func156 (e_spec_l19Short spec_l01Var)
noncomputable def H_spec_l19Short {γ : Type} (F : ByteArray → Option ByteArray) : Hd ctx γ := hdl cv1.dec (fun a => F a) cv1.enc
theorem h_spec_l19Short {γ : Type} : HdOk (γ := γ) PP 156 (H_spec_l19Short spec_l19Short) := hd_ok ok_spec_l19Short
noncomputable def E_spec_ThingText (spec_ThingOk : SThing → Option Bool) (spec_l19Flag : Bool → Int → Option Int) (spec_l01Var : Int → Option ByteArray) (spec_l06Byte : Int → Option ByteArray) (spec_l19Short : ByteArray → Option ByteArray) (x_0 : SThing) : Option (ByteArray × Bool) :=
  (spec_ThingOk x_0).bind fun r0 =>
  bif (!r0) then
    some ((⟨#[]⟩ : ByteArray), false)
  else
    (spec_l19Flag x_0.fHidden (1 : Int)).bind fun r1 =>
    (spec_l19Flag x_0.fFixed (2 : Int)).bind fun r2 =>
    (spec_l19Flag x_0.fSigns (4 : Int)).bind fun r3 =>
    (spec_l19Flag x_0.fWraps (8 : Int)).bind fun r4 =>
    (spec_l01Var x_0.fId).bind fun r5 =>
    (spec_l06Byte x_0.fKind).bind fun r6 =>
    bif (decide ((r5.size + r6.size) ≤ 9223372036854775807)) then
    (spec_l06Byte (w64 ((w64 ((w64 (r1 + r2)) + r3)) + r4))).bind fun r7 =>
    bif (decide (((r5 ++ r6).size + r7.size) ≤ 9223372036854775807)) then
    (spec_l19Short x_0.fValue).bind fun r8 =>
    bif (decide ((((r5 ++ r6) ++ r7).size + r8.size) ≤ 9223372036854775807)) then
    (spec_l01Var x_0.fNext).bind fun r9 =>
    bif (decide (((((r5 ++ r6) ++ r7) ++ r8).size + r9.size) ≤ 9223372036854775807)) then
    some (((((r5 ++ r6) ++ r7) ++ r8) ++ r9), true)
    else none
    else none
    else none
    else none
noncomputable def spec_ThingText (x_0 : SThing) : Option (ByteArray × Bool) := E_spec_ThingText spec_ThingOk spec_l19Flag spec_l01Var spec_l06Byte spec_l19Short x_0
theorem e_spec_ThingText (spec_ThingOk : SThing → Option Bool) (spec_l19Flag : Bool → Int → Option Int) (spec_l01Var : Int → Option ByteArray) (spec_l06Byte : Int → Option ByteArray) (spec_l19Short : ByteArray → Option ByteArray) : EntryIs0 ctx PP 118 [] [(127, H_spec_ThingOk spec_ThingOk), (155, H_spec_l19Flag spec_l19Flag), (50, H_spec_l01Var spec_l01Var), (152, H_spec_l06Byte spec_l06Byte), (156, H_spec_l19Short spec_l19Short)] cv26 cv17 (fun a => E_spec_ThingText spec_ThingOk spec_l19Flag spec_l01Var spec_l06Byte spec_l19Short a) := fun a => by kernel_rfl
theorem ok_spec_ThingText : Tells ctx PP 118 cv26 cv17 (fun a => spec_ThingText a) := fn_ok0 (hl_cons h_spec_ThingOk (hl_cons h_spec_l19Flag (hl_cons h_spec_l01Var (hl_cons h_spec_l06Byte (hl_cons h_spec_l19Short hl_nil))))) Tryd.func118 (e_spec_ThingText spec_ThingOk spec_l19Flag spec_l01Var spec_l06Byte spec_l19Short)
noncomputable def H_spec_ThingText {γ : Type} (F : SThing → Option (ByteArray × Bool)) : Hd ctx γ := hdl cv26.dec (fun a => F a) cv17.enc
theorem h_spec_ThingText {γ : Type} : HdOk (γ := γ) PP 118 (H_spec_ThingText spec_ThingText) := hd_ok ok_spec_ThingText
noncomputable def E_spec_RecText (spec_l01In : Int → Int → Int → Option Bool) (spec_l01Var : Int → Option ByteArray) (spec_ThingText : SThing → Option (ByteArray × Bool)) (r_0 : SRec) : Option (ByteArray × Bool) :=
  bif (r_0.fKind == 1) then
    bif ((r_0.fText.size : Int) == 32) then
      bif (r_0.fNum == 0) then
        bif ((r_0.fThing.fId == 0) && ((r_0.fThing.fKind == 0) && ((r_0.fThing.fHidden == false) && ((r_0.fThing.fFixed == false) && ((r_0.fThing.fSigns == false) && ((r_0.fThing.fWraps == false) && (((ByteArray.toList r_0.fThing.fValue) == (ByteArray.toList (⟨#[]⟩ : ByteArray))) && ((r_0.fThing.fNext == 0) && true)))))))) then
          bif (decide (((⟨#[1]⟩ : ByteArray).size + r_0.fText.size) ≤ 9223372036854775807)) then
          some (((⟨#[1]⟩ : ByteArray) ++ r_0.fText), true)
          else none
        else
          some ((⟨#[]⟩ : ByteArray), false)
      else
        some ((⟨#[]⟩ : ByteArray), false)
    else
      some ((⟨#[]⟩ : ByteArray), false)
  else
    bif (r_0.fKind == 2) then
      bif ((ByteArray.toList r_0.fText) == (ByteArray.toList (⟨#[]⟩ : ByteArray))) then
        bif ((r_0.fThing.fId == 0) && ((r_0.fThing.fKind == 0) && ((r_0.fThing.fHidden == false) && ((r_0.fThing.fFixed == false) && ((r_0.fThing.fSigns == false) && ((r_0.fThing.fWraps == false) && (((ByteArray.toList r_0.fThing.fValue) == (ByteArray.toList (⟨#[]⟩ : ByteArray))) && ((r_0.fThing.fNext == 0) && true)))))))) then
          (spec_l01In r_0.fNum (0 : Int) (3 : Int)).bind fun r0 =>
          bif r0 then
            (spec_l01Var r_0.fNum).bind fun r1 =>
            bif (decide (((⟨#[2]⟩ : ByteArray).size + r1.size) ≤ 9223372036854775807)) then
            some (((⟨#[2]⟩ : ByteArray) ++ r1), true)
            else none
          else
            some ((⟨#[]⟩ : ByteArray), false)
        else
          some ((⟨#[]⟩ : ByteArray), false)
      else
        some ((⟨#[]⟩ : ByteArray), false)
    else
      bif (r_0.fKind == 3) then
        (spec_ThingText r_0.fThing).bind fun r2 =>
        bif r2.2 then
          bif ((ByteArray.toList r_0.fText) == (ByteArray.toList (⟨#[]⟩ : ByteArray))) then
            bif (r_0.fNum == 0) then
              bif (decide (((⟨#[3]⟩ : ByteArray).size + r2.1.size) ≤ 9223372036854775807)) then
              some (((⟨#[3]⟩ : ByteArray) ++ r2.1), true)
              else none
            else
              some ((⟨#[]⟩ : ByteArray), false)
          else
            some ((⟨#[]⟩ : ByteArray), false)
        else
          some ((⟨#[]⟩ : ByteArray), false)
      else
        bif (r_0.fKind == 4) then
          bif ((ByteArray.toList r_0.fText) == (ByteArray.toList (⟨#[]⟩ : ByteArray))) then
            bif ((r_0.fThing.fId == 0) && ((r_0.fThing.fKind == 0) && ((r_0.fThing.fHidden == false) && ((r_0.fThing.fFixed == false) && ((r_0.fThing.fSigns == false) && ((r_0.fThing.fWraps == false) && (((ByteArray.toList r_0.fThing.fValue) == (ByteArray.toList (⟨#[]⟩ : ByteArray))) && ((r_0.fThing.fNext == 0) && true)))))))) then
              (spec_l01In r_0.fNum (1 : Int) (1000 : Int)).bind fun r3 =>
              bif r3 then
                (spec_l01Var r_0.fNum).bind fun r4 =>
                bif (decide (((⟨#[4]⟩ : ByteArray).size + r4.size) ≤ 9223372036854775807)) then
                some (((⟨#[4]⟩ : ByteArray) ++ r4), true)
                else none
              else
                some ((⟨#[]⟩ : ByteArray), false)
            else
              some ((⟨#[]⟩ : ByteArray), false)
          else
            some ((⟨#[]⟩ : ByteArray), false)
        else
          some ((⟨#[]⟩ : ByteArray), false)
noncomputable def spec_RecText (r_0 : SRec) : Option (ByteArray × Bool) := E_spec_RecText spec_l01In spec_l01Var spec_ThingText r_0
theorem e_spec_RecText (spec_l01In : Int → Int → Int → Option Bool) (spec_l01Var : Int → Option ByteArray) (spec_ThingText : SThing → Option (ByteArray × Bool)) : EntryIs0 ctx PP 59 [] [(60, H_spec_l01In spec_l01In), (50, H_spec_l01Var spec_l01Var), (118, H_spec_ThingText spec_ThingText)] cv27 cv17 (fun a => E_spec_RecText spec_l01In spec_l01Var spec_ThingText a) := fun a => by kernel_rfl
theorem ok_spec_RecText : Tells ctx PP 59 cv27 cv17 (fun a => spec_RecText a) := fn_ok0 (hl_cons h_spec_l01In (hl_cons h_spec_l01Var (hl_cons h_spec_ThingText hl_nil))) Tryd.func59 (e_spec_RecText spec_l01In spec_l01Var spec_ThingText)
noncomputable def H_spec_RecText {γ : Type} (F : SRec → Option (ByteArray × Bool)) : Hd ctx γ := hdl cv27.dec (fun a => F a) cv17.enc
theorem h_spec_RecText {γ : Type} : HdOk (γ := γ) PP 59 (H_spec_RecText spec_RecText) := hd_ok ok_spec_RecText
noncomputable def E_spec_l05First   : Option (List Int) :=
  some [(1779033703 : Int), (3144134277 : Int), (1013904242 : Int), (2773480762 : Int), (1359893119 : Int), (2600822924 : Int), (528734635 : Int), (1541459225 : Int)]
noncomputable def spec_l05First  : Option (List Int) := E_spec_l05First  
theorem e_spec_l05First  : EntryIs0 ctx PP 166 [] [] cv4 cv5 (fun _ => E_spec_l05First  ) := fun a => by kernel_rfl
theorem ok_spec_l05First : Tells ctx PP 166 cv4 cv5 (fun _ => spec_l05First ) := fn_ok0 hl_nil Tryd.func166 (e_spec_l05First )
noncomputable def H_spec_l05First {γ : Type} (F : Option (List Int)) : Hd ctx γ := hdl cv4.dec (fun _ => F ) cv5.enc
theorem h_spec_l05First {γ : Type} : HdOk (γ := γ) PP 166 (H_spec_l05First spec_l05First) := hd_ok ok_spec_l05First
noncomputable def todo_spec_l05Bytes_0 : List Go.Item := [.code (cAt (bodyOf Tryd.f165) [1, 1, 0, 1, 0, 0, 0, 0]), .code (cAt (bodyOf Tryd.f165) [1, 1, 0, 1, 0, 0, 0, 1]), .code (cAt (bodyOf Tryd.f165) [1, 1, 0, 1, 0, 0, 1]), .inLoop (cAt (bodyOf Tryd.f165) [1, 1, 0, 1, 0, 0]), .inBlock 0, .code (cAt (bodyOf Tryd.f165) [1, 1, 1])]
inductive St_spec_l05Bytes where
  | c0 (words_0 : (List Int)) (i_4 : Int) (out_3 : (List Int))
noncomputable def at_spec_l05Bytes : St_spec_l05Bytes → LI
  | .c0 words_0 i_4 out_3 => (todo_spec_l05Bytes_0, [(0, [.one (.rsl 138 words_0)]), (3, [.one (.own 240)]), (4, [.one (.int .i64 i_4)])], [(240, .sl 5 out_3)])
noncomputable def E_spec_l05Bytes  (k : St_spec_l05Bytes → Option ByteArray) (words_0 : (List Int)) : Option ByteArray :=
  k (.c0 words_0 (0 : Int) [])
noncomputable def B_spec_l05Bytes  (k : St_spec_l05Bytes → Option ByteArray) : St_spec_l05Bytes → Option ByteArray
  | .c0 words_0 i_4 out_3 =>
    bif (decide (i_4 < (words_0.length : Int))) then
      bif ((decide (0 ≤ i_4)) && (decide (i_4 < (words_0.length : Int)))) then
      bif (decide (((out_3.length + 4) * 1) ≤ 140737488355328)) then
      k (.c0 words_0 (w64 (i_4 + 1)) (out_3 ++ [(w8 (w32 ((words_0.getD i_4.toNat 0).tdiv 16777216))), (w8 ((w32 ((words_0.getD i_4.toNat 0).tdiv 65536)).tmod 256)), (w8 ((w32 ((words_0.getD i_4.toNat 0).tdiv 256)).tmod 256)), (w8 ((words_0.getD i_4.toNat 0).tmod 256))]))
      else none
      else none
    else
      some (ofBytes out_3)
noncomputable def L_spec_l05Bytes : Nat → St_spec_l05Bytes → Option ByteArray
  | 0, _ => none
  | m + 1, s => B_spec_l05Bytes  (L_spec_l05Bytes m) s
noncomputable def spec_l05Bytes (words_0 : (List Int)) : Option ByteArray := E_spec_l05Bytes  (L_spec_l05Bytes gas) words_0
theorem e_spec_l05Bytes  : EntryIs ctx PP 165 [] [] cv6 cv1 at_spec_l05Bytes (fun k a => E_spec_l05Bytes  k a) := fun stop a => by kernel_rfl
theorem b_spec_l05Bytes  : CutIs ctx PP 165 Tryd.f165 [] [] cv1 at_spec_l05Bytes (B_spec_l05Bytes ) := fun stop s => by cases s <;> kernel_rfl
theorem i_spec_l05Bytes : ∀ s s', at_spec_l05Bytes s = at_spec_l05Bytes s' → s = s' := by
  intro s s' h
  cases s with
  | c0 v0 v1 v2 => cases s' with
    | c0 w0 w1 w2 => cases h; rfl
theorem ok_spec_l05Bytes : Tells ctx PP 165 cv6 cv1 (fun a => spec_l05Bytes a) := fn_ok hl_nil Tryd.func165 i_spec_l05Bytes (fun _ => rfl) (fun _ _ => rfl) (b_spec_l05Bytes ) (e_spec_l05Bytes ) gas
noncomputable def H_spec_l05Bytes {γ : Type} (F : (List Int) → Option ByteArray) : Hd ctx γ := hdl cv6.dec (fun a => F a) cv1.enc
theorem h_spec_l05Bytes {γ : Type} : HdOk (γ := γ) PP 165 (H_spec_l05Bytes spec_l05Bytes) := hd_ok ok_spec_l05Bytes
noncomputable def E_spec_HasherNew (spec_l05First : Option (List Int)) (spec_l05Bytes : (List Int) → Option ByteArray)  : Option SHasher :=
  spec_l05First.bind fun r0 =>
  (spec_l05Bytes r0).bind fun r1 =>
  some (⟨r1, (⟨#[]⟩ : ByteArray), (0 : Int)⟩ : SHasher)
noncomputable def spec_HasherNew  : Option SHasher := E_spec_HasherNew spec_l05First spec_l05Bytes 
theorem e_spec_HasherNew (spec_l05First : Option (List Int)) (spec_l05Bytes : (List Int) → Option ByteArray) : EntryIs0 ctx PP 130 [] [(166, H_spec_l05First spec_l05First), (165, H_spec_l05Bytes spec_l05Bytes)] cv4 cv7 (fun _ => E_spec_HasherNew spec_l05First spec_l05Bytes ) := fun a => by kernel_rfl
theorem ok_spec_HasherNew : Tells ctx PP 130 cv4 cv7 (fun _ => spec_HasherNew ) := fn_ok0 (hl_cons h_spec_l05First (hl_cons h_spec_l05Bytes hl_nil)) Tryd.func130 (e_spec_HasherNew spec_l05First spec_l05Bytes)
noncomputable def H_spec_HasherNew {γ : Type} (F : Option SHasher) : Hd ctx γ := hdl cv4.dec (fun _ => F ) cv7.enc
theorem h_spec_HasherNew {γ : Type} : HdOk (γ := γ) PP 130 (H_spec_HasherNew spec_HasherNew) := hd_ok ok_spec_HasherNew
noncomputable def E_spec_HasherOk (spec_l01In : Int → Int → Int → Option Bool) (h_0 : SHasher) : Option Bool :=
  bif ((h_0.fState.size : Int) == 32) then
    bif (decide ((h_0.fRest.size : Int) < 64)) then
      (spec_l01In h_0.fCount (0 : Int) (1000000000 : Int)).bind fun r0 =>
      bif r0 then
        some ((h_0.fCount.tmod 64) == (h_0.fRest.size : Int))
      else
        some false
    else
      some false
  else
    some false
noncomputable def spec_HasherOk (h_0 : SHasher) : Option Bool := E_spec_HasherOk spec_l01In h_0
theorem e_spec_HasherOk (spec_l01In : Int → Int → Int → Option Bool) : EntryIs0 ctx PP 161 [] [(60, H_spec_l01In spec_l01In)] cv7 cv3 (fun a => E_spec_HasherOk spec_l01In a) := fun a => by kernel_rfl
theorem ok_spec_HasherOk : Tells ctx PP 161 cv7 cv3 (fun a => spec_HasherOk a) := fn_ok0 (hl_cons h_spec_l01In hl_nil) Tryd.func161 (e_spec_HasherOk spec_l01In)
noncomputable def H_spec_HasherOk {γ : Type} (F : SHasher → Option Bool) : Hd ctx γ := hdl cv7.dec (fun a => F a) cv3.enc
theorem h_spec_HasherOk {γ : Type} : HdOk (γ := γ) PP 161 (H_spec_HasherOk spec_HasherOk) := hd_ok ok_spec_HasherOk
noncomputable def E_spec_l05Word  (s_0 : ByteArray) (at_1 : Int) : Option Int :=
  bif ((decide (0 ≤ at_1)) && (decide (at_1 < (s_0.size : Int)))) then
  bif ((decide (0 ≤ (w64 (at_1 + 1)))) && (decide ((w64 (at_1 + 1)) < (s_0.size : Int)))) then
  bif ((decide (0 ≤ (w64 (at_1 + 2)))) && (decide ((w64 (at_1 + 2)) < (s_0.size : Int)))) then
  bif ((decide (0 ≤ (w64 (at_1 + 3)))) && (decide ((w64 (at_1 + 3)) < (s_0.size : Int)))) then
  some (w32 ((w32 ((w32 ((w32 ((w32 (bt s_0 at_1)) * 16777216)) + (w32 ((w32 (bt s_0 (w64 (at_1 + 1)))) * 65536)))) + (w32 ((w32 (bt s_0 (w64 (at_1 + 2)))) * 256)))) + (w32 (bt s_0 (w64 (at_1 + 3))))))
  else none
  else none
  else none
  else none
noncomputable def spec_l05Word (s_0 : ByteArray) (at_1 : Int) : Option Int := E_spec_l05Word  s_0 at_1
theorem e_spec_l05Word  : EntryIs0 ctx PP 177 [] [] cv8 cv9 (fun a => E_spec_l05Word  a.1 a.2) := fun a => by kernel_rfl
theorem ok_spec_l05Word : Tells ctx PP 177 cv8 cv9 (fun a => spec_l05Word a.1 a.2) := fn_ok0 hl_nil Tryd.func177 (e_spec_l05Word )
noncomputable def H_spec_l05Word {γ : Type} (F : ByteArray → Int → Option Int) : Hd ctx γ := hdl cv8.dec (fun a => F a.1 a.2) cv9.enc
theorem h_spec_l05Word {γ : Type} : HdOk (γ := γ) PP 177 (H_spec_l05Word spec_l05Word) := hd_ok ok_spec_l05Word
noncomputable def todo_spec_l05Words_0 : List Go.Item := [.code (cAt (bodyOf Tryd.f162) [1, 1, 0, 1, 0, 0, 0, 0]), .code (cAt (bodyOf Tryd.f162) [1, 1, 0, 1, 0, 0, 0, 1]), .code (cAt (bodyOf Tryd.f162) [1, 1, 0, 1, 0, 0, 1]), .inLoop (cAt (bodyOf Tryd.f162) [1, 1, 0, 1, 0, 0]), .inBlock 0, .code (cAt (bodyOf Tryd.f162) [1, 1, 1])]
inductive St_spec_l05Words where
  | c0 (s_0 : ByteArray) (i_4 : Int) (out_3 : (List Int))
noncomputable def at_spec_l05Words : St_spec_l05Words → LI
  | .c0 s_0 i_4 out_3 => (todo_spec_l05Words_0, [(0, [.one (.str s_0)]), (3, [.one (.own 240)]), (4, [.one (.int .i64 i_4)])], [(240, .sl 138 out_3)])
noncomputable def E_spec_l05Words (spec_l05Word : ByteArray → Int → Option Int) (k : St_spec_l05Words → Option (List Int)) (s_0 : ByteArray) : Option (List Int) :=
  k (.c0 s_0 (0 : Int) [])
noncomputable def B_spec_l05Words (spec_l05Word : ByteArray → Int → Option Int) (k : St_spec_l05Words → Option (List Int)) : St_spec_l05Words → Option (List Int)
  | .c0 s_0 i_4 out_3 =>
    bif (decide ((w64 (i_4 + 4)) ≤ (s_0.size : Int))) then
      (spec_l05Word s_0 i_4).bind fun r0 =>
      bif (decide (((out_3.length + 1) * 4) ≤ 140737488355328)) then
      k (.c0 s_0 (w64 (i_4 + 4)) (out_3 ++ [r0]))
      else none
    else
      some out_3
noncomputable def L_spec_l05Words : Nat → St_spec_l05Words → Option (List Int)
  | 0, _ => none
  | m + 1, s => B_spec_l05Words spec_l05Word (L_spec_l05Words m) s
noncomputable def spec_l05Words (s_0 : ByteArray) : Option (List Int) := E_spec_l05Words spec_l05Word (L_spec_l05Words gas) s_0
theorem e_spec_l05Words (spec_l05Word : ByteArray → Int → Option Int) : EntryIs ctx PP 162 [] [(177, H_spec_l05Word spec_l05Word)] cv1 cv5 at_spec_l05Words (fun k a => E_spec_l05Words spec_l05Word k a) := fun stop a => by kernel_rfl
theorem b_spec_l05Words (spec_l05Word : ByteArray → Int → Option Int) : CutIs ctx PP 162 Tryd.f162 [] [(177, H_spec_l05Word spec_l05Word)] cv5 at_spec_l05Words (B_spec_l05Words spec_l05Word) := fun stop s => by cases s <;> kernel_rfl
theorem i_spec_l05Words : ∀ s s', at_spec_l05Words s = at_spec_l05Words s' → s = s' := by
  intro s s' h
  cases s with
  | c0 v0 v1 v2 => cases s' with
    | c0 w0 w1 w2 => cases h; rfl
theorem ok_spec_l05Words : Tells ctx PP 162 cv1 cv5 (fun a => spec_l05Words a) := fn_ok (hl_cons h_spec_l05Word hl_nil) Tryd.func162 i_spec_l05Words (fun _ => rfl) (fun _ _ => rfl) (b_spec_l05Words spec_l05Word) (e_spec_l05Words spec_l05Word) gas
noncomputable def H_spec_l05Words {γ : Type} (F : ByteArray → Option (List Int)) : Hd ctx γ := hdl cv1.dec (fun a => F a) cv5.enc
theorem h_spec_l05Words {γ : Type} : HdOk (γ := γ) PP 162 (H_spec_l05Words spec_l05Words) := hd_ok ok_spec_l05Words
noncomputable def E_spec_l05K   : Option (List Int) :=
  some [(1116352408 : Int), (1899447441 : Int), (3049323471 : Int), (3921009573 : Int), (961987163 : Int), (1508970993 : Int), (2453635748 : Int), (2870763221 : Int), (3624381080 : Int), (310598401 : Int), (607225278 : Int), (1426881987 : Int), (1925078388 : Int), (2162078206 : Int), (2614888103 : Int), (3248222580 : Int), (3835390401 : Int), (4022224774 : Int), (264347078 : Int), (604807628 : Int), (770255983 : Int), (1249150122 : Int), (1555081692 : Int), (1996064986 : Int), (2554220882 : Int), (2821834349 : Int), (2952996808 : Int), (3210313671 : Int), (3336571891 : Int), (3584528711 : Int), (113926993 : Int), (338241895 : Int), (666307205 : Int), (773529912 : Int), (1294757372 : Int), (1396182291 : Int), (1695183700 : Int), (1986661051 : Int), (2177026350 : Int), (2456956037 : Int), (2730485921 : Int), (2820302411 : Int), (3259730800 : Int), (3345764771 : Int), (3516065817 : Int), (3600352804 : Int), (4094571909 : Int), (275423344 : Int), (430227734 : Int), (506948616 : Int), (659060556 : Int), (883997877 : Int), (958139571 : Int), (1322822218 : Int), (1537002063 : Int), (1747873779 : Int), (1955562222 : Int), (2024104815 : Int), (2227730452 : Int), (2361852424 : Int), (2428436474 : Int), (2756734187 : Int), (3204031479 : Int), (3329325298 : Int)]
noncomputable def spec_l05K  : Option (List Int) := E_spec_l05K  
theorem e_spec_l05K  : EntryIs0 ctx PP 163 [] [] cv4 cv5 (fun _ => E_spec_l05K  ) := fun a => by kernel_rfl
theorem ok_spec_l05K : Tells ctx PP 163 cv4 cv5 (fun _ => spec_l05K ) := fn_ok0 hl_nil Tryd.func163 (e_spec_l05K )
noncomputable def H_spec_l05K {γ : Type} (F : Option (List Int)) : Hd ctx γ := hdl cv4.dec (fun _ => F ) cv5.enc
theorem h_spec_l05K {γ : Type} : HdOk (γ := γ) PP 163 (H_spec_l05K spec_l05K) := hd_ok ok_spec_l05K
noncomputable def E_spec_l05Right  (x_0 : Int) (low_1 : Int) (high_2 : Int) : Option Int :=
  bif (!(low_1 == 0)) then
  bif (!(low_1 == 0)) then
  some (w32 ((w32 (x_0.tdiv low_1)) + (w32 ((x_0.tmod low_1) * high_2))))
  else none
  else none
noncomputable def spec_l05Right (x_0 : Int) (low_1 : Int) (high_2 : Int) : Option Int := E_spec_l05Right  x_0 low_1 high_2
theorem e_spec_l05Right  : EntryIs0 ctx PP 181 [] [] cv10 cv9 (fun a => E_spec_l05Right  a.1 a.2.1 a.2.2) := fun a => by kernel_rfl
theorem ok_spec_l05Right : Tells ctx PP 181 cv10 cv9 (fun a => spec_l05Right a.1 a.2.1 a.2.2) := fn_ok0 hl_nil Tryd.func181 (e_spec_l05Right )
noncomputable def H_spec_l05Right {γ : Type} (F : Int → Int → Int → Option Int) : Hd ctx γ := hdl cv10.dec (fun a => F a.1 a.2.1 a.2.2) cv9.enc
theorem h_spec_l05Right {γ : Type} : HdOk (γ := γ) PP 181 (H_spec_l05Right spec_l05Right) := hd_ok ok_spec_l05Right
noncomputable def E_spec_l05S (spec_l05Right : Int → Int → Int → Option Int) (x_0 : Int) (a_1 : Int) (b_2 : Int) (c_3 : Int) (last_4 : Bool) : Option Int :=
  bif (!(a_1 == 0)) then
  (spec_l05Right x_0 a_1 (w32 ((w32 ((2147483648 : Int).tdiv a_1)) * 2))).bind fun r0 =>
  bif (!(b_2 == 0)) then
  (spec_l05Right x_0 b_2 (w32 ((w32 ((2147483648 : Int).tdiv b_2)) * 2))).bind fun r1 =>
  bif (!(c_3 == 0)) then
  bif (!last_4) then
    bif (!(c_3 == 0)) then
    (spec_l05Right x_0 c_3 (w32 ((w32 ((2147483648 : Int).tdiv c_3)) * 2))).bind fun r2 =>
    some (w32 (((BitVec.toNat ((BitVec.ofInt (IntKind.bits IntKind.u32) (w32 (((BitVec.toNat ((BitVec.ofInt (IntKind.bits IntKind.u32) r0) ^^^ (BitVec.ofInt (IntKind.bits IntKind.u32) r1))) : Nat) : Int))) ^^^ (BitVec.ofInt (IntKind.bits IntKind.u32) r2))) : Nat) : Int))
    else none
  else
    some (w32 (((BitVec.toNat ((BitVec.ofInt (IntKind.bits IntKind.u32) (w32 (((BitVec.toNat ((BitVec.ofInt (IntKind.bits IntKind.u32) r0) ^^^ (BitVec.ofInt (IntKind.bits IntKind.u32) r1))) : Nat) : Int))) ^^^ (BitVec.ofInt (IntKind.bits IntKind.u32) (w32 (x_0.tdiv c_3))))) : Nat) : Int))
  else none
  else none
  else none
noncomputable def spec_l05S (x_0 : Int) (a_1 : Int) (b_2 : Int) (c_3 : Int) (last_4 : Bool) : Option Int := E_spec_l05S spec_l05Right x_0 a_1 b_2 c_3 last_4
theorem e_spec_l05S (spec_l05Right : Int → Int → Int → Option Int) : EntryIs0 ctx PP 178 [] [(181, H_spec_l05Right spec_l05Right)] cv11 cv9 (fun a => E_spec_l05S spec_l05Right a.1 a.2.1 a.2.2.1 a.2.2.2.1 a.2.2.2.2) := fun a => by kernel_rfl
theorem ok_spec_l05S : Tells ctx PP 178 cv11 cv9 (fun a => spec_l05S a.1 a.2.1 a.2.2.1 a.2.2.2.1 a.2.2.2.2) := fn_ok0 (hl_cons h_spec_l05Right hl_nil) Tryd.func178 (e_spec_l05S spec_l05Right)
noncomputable def H_spec_l05S {γ : Type} (F : Int → Int → Int → Int → Bool → Option Int) : Hd ctx γ := hdl cv11.dec (fun a => F a.1 a.2.1 a.2.2.1 a.2.2.2.1 a.2.2.2.2) cv9.enc
theorem h_spec_l05S {γ : Type} : HdOk (γ := γ) PP 178 (H_spec_l05S spec_l05S) := hd_ok ok_spec_l05S
noncomputable def todo_spec_l05Round_0 : List Go.Item := [.code (cAt (bodyOf Tryd.f164) [1, 1, 0, 1, 0, 0, 0, 0]), .code (cAt (bodyOf Tryd.f164) [1, 1, 0, 1, 0, 0, 0, 1]), .code (cAt (bodyOf Tryd.f164) [1, 1, 0, 1, 0, 0, 1]), .inLoop (cAt (bodyOf Tryd.f164) [1, 1, 0, 1, 0, 0]), .inBlock 0, .code (cAt (bodyOf Tryd.f164) [1, 1, 1])]
noncomputable def todo_spec_l05Round_1 : List Go.Item := [.code (cAt (bodyOf Tryd.f164) [1, 1, 1, 1, 0, 1, 0, 0, 0, 0]), .code (cAt (bodyOf Tryd.f164) [1, 1, 1, 1, 0, 1, 0, 0, 0, 1]), .code (cAt (bodyOf Tryd.f164) [1, 1, 1, 1, 0, 1, 0, 0, 1]), .inLoop (cAt (bodyOf Tryd.f164) [1, 1, 1, 1, 0, 1, 0, 0]), .inBlock 2, .code (cAt (bodyOf Tryd.f164) [1, 1, 1, 1, 1])]
noncomputable def todo_spec_l05Round_2 : List Go.Item := [.code (cAt (bodyOf Tryd.f164) [1, 1, 1, 1, 0, 1, 0, 0, 1, 0, 0, 1, 1, 1, 1, 1, 0, 1, 0, 0, 0, 0]), .code (cAt (bodyOf Tryd.f164) [1, 1, 1, 1, 0, 1, 0, 0, 1, 0, 0, 1, 1, 1, 1, 1, 0, 1, 0, 0, 0, 1]), .code (cAt (bodyOf Tryd.f164) [1, 1, 1, 1, 0, 1, 0, 0, 1, 0, 0, 1, 1, 1, 1, 1, 0, 1, 0, 0, 1]), .inLoop (cAt (bodyOf Tryd.f164) [1, 1, 1, 1, 0, 1, 0, 0, 1, 0, 0, 1, 1, 1, 1, 1, 0, 1, 0, 0]), .inBlock 4, .code (cAt (bodyOf Tryd.f164) [1, 1, 1, 1, 0, 1, 0, 0, 1, 0, 0, 1, 1, 1, 1, 1, 1]), .inBlock 3, .code (cAt (bodyOf Tryd.f164) [1, 1, 1, 1, 0, 1, 0, 0, 1, 1]), .inLoop (cAt (bodyOf Tryd.f164) [1, 1, 1, 1, 0, 1, 0, 0]), .inBlock 2, .code (cAt (bodyOf Tryd.f164) [1, 1, 1, 1, 1])]
noncomputable def todo_spec_l05Round_3 : List Go.Item := [.code (cAt (bodyOf Tryd.f164) [1, 1, 1, 1, 1, 1, 0, 1, 0, 0, 0, 0]), .code (cAt (bodyOf Tryd.f164) [1, 1, 1, 1, 1, 1, 0, 1, 0, 0, 0, 1]), .code (cAt (bodyOf Tryd.f164) [1, 1, 1, 1, 1, 1, 0, 1, 0, 0, 1]), .inLoop (cAt (bodyOf Tryd.f164) [1, 1, 1, 1, 1, 1, 0, 1, 0, 0]), .inBlock 6, .code (cAt (bodyOf Tryd.f164) [1, 1, 1, 1, 1, 1, 1])]
inductive St_spec_l05Round where
  | c0 (t_0 : (List Int)) (o_1 : (List Int)) (v_8 : Int) (v_7 : (List Int))
  | c1 (t_0 : (List Int)) (o_1 : (List Int)) (v_10 : Int) (v_7 : (List Int)) (v_9 : (List Int))
  | c2 (t_0 : (List Int)) (o_1 : (List Int)) (v_10 : Int) (v_13 : Int) (v_15 : Int) (v_16 : Int) (v_7 : (List Int)) (v_9 : (List Int))
  | c3 (t_0 : (List Int)) (v_18 : Int) (v_9 : (List Int)) (v_17 : (List Int))
noncomputable def at_spec_l05Round : St_spec_l05Round → LI
  | .c0 t_0 o_1 v_8 v_7 => (todo_spec_l05Round_0, [(0, [.one (.rsl 138 t_0)]), (1, [.one (.rsl 138 o_1)]), (7, [.one (.own 496)]), (8, [.one (.int .i64 v_8)])], [(496, .sl 138 v_7)])
  | .c1 t_0 o_1 v_10 v_7 v_9 => (todo_spec_l05Round_1, [(0, [.one (.rsl 138 t_0)]), (1, [.one (.rsl 138 o_1)]), (7, [.one (.own 496)]), (9, [.one (.own 624)]), (10, [.one (.int .i64 v_10)])], [(496, .sl 138 v_7), (624, .sl 138 v_9)])
  | .c2 t_0 o_1 v_10 v_13 v_15 v_16 v_7 v_9 => (todo_spec_l05Round_2, [(0, [.one (.rsl 138 t_0)]), (1, [.one (.rsl 138 o_1)]), (7, [.one (.own 496)]), (9, [.one (.own 624)]), (10, [.one (.int .i64 v_10)]), (13, [.one (.int .u32 v_13)]), (15, [.one (.int .u32 v_15)]), (16, [.one (.int .i64 v_16)])], [(496, .sl 138 v_7), (624, .sl 138 v_9)])
  | .c3 t_0 v_18 v_9 v_17 => (todo_spec_l05Round_3, [(0, [.one (.rsl 138 t_0)]), (9, [.one (.own 624)]), (17, [.one (.own 1136)]), (18, [.one (.int .i64 v_18)])], [(624, .sl 138 v_9), (1136, .sl 138 v_17)])
noncomputable def E_spec_l05Round (spec_l05Words : ByteArray → Option (List Int)) (spec_l05S : Int → Int → Int → Int → Bool → Option Int) (k : St_spec_l05Round → Option (List Int)) (t_0 : (List Int)) (o_1 : (List Int)) (A_2 : ByteArray) : Option (List Int) :=
  (spec_l05Words A_2).bind fun r0 =>
  k (.c0 t_0 o_1 (16 : Int) r0)
noncomputable def B_spec_l05Round (spec_l05Words : ByteArray → Option (List Int)) (spec_l05S : Int → Int → Int → Int → Bool → Option Int) (k : St_spec_l05Round → Option (List Int)) : St_spec_l05Round → Option (List Int)
  | .c0 t_0 o_1 v_8 v_7 =>
    bif (decide (v_8 < 64)) then
      bif ((decide (0 ≤ (w64 (v_8 - 2)))) && (decide ((w64 (v_8 - 2)) < (v_7.length : Int)))) then
      (spec_l05S (v_7.getD (w64 (v_8 - 2)).toNat 0) (131072 : Int) (524288 : Int) (1024 : Int) true).bind fun r0 =>
      bif ((decide (0 ≤ (w64 (v_8 - 7)))) && (decide ((w64 (v_8 - 7)) < (v_7.length : Int)))) then
      bif ((decide (0 ≤ (w64 (v_8 - 15)))) && (decide ((w64 (v_8 - 15)) < (v_7.length : Int)))) then
      (spec_l05S (v_7.getD (w64 (v_8 - 15)).toNat 0) (128 : Int) (262144 : Int) (8 : Int) true).bind fun r1 =>
      bif ((decide (0 ≤ (w64 (v_8 - 16)))) && (decide ((w64 (v_8 - 16)) < (v_7.length : Int)))) then
      bif (decide (((v_7.length + 1) * 4) ≤ 140737488355328)) then
      k (.c0 t_0 o_1 (w64 (v_8 + 1)) (v_7 ++ [(w32 ((w32 ((w32 (r0 + (v_7.getD (w64 (v_8 - 7)).toNat 0))) + r1)) + (v_7.getD (w64 (v_8 - 16)).toNat 0)))]))
      else none
      else none
      else none
      else none
      else none
    else
      bif (decide (((0 + t_0.length) * 4) ≤ 140737488355328)) then
      k (.c1 t_0 o_1 (0 : Int) v_7 ([] ++ t_0))
      else none
  | .c1 t_0 o_1 v_10 v_7 v_9 =>
    bif (decide (v_10 < 64)) then
      bif ((decide ((0 : Int) ≤ (4 : Int))) && (decide (4 < (v_9.length : Int)))) then
      bif ((decide ((0 : Int) ≤ (5 : Int))) && (decide (5 < (v_9.length : Int)))) then
      bif ((decide ((0 : Int) ≤ (6 : Int))) && (decide (6 < (v_9.length : Int)))) then
      bif ((decide ((0 : Int) ≤ (7 : Int))) && (decide (7 < (v_9.length : Int)))) then
      (spec_l05S (v_9.getD (4 : Int).toNat 0) (64 : Int) (2048 : Int) (33554432 : Int) false).bind fun r0 =>
      bif ((decide (0 ≤ v_10)) && (decide (v_10 < (o_1.length : Int)))) then
      bif ((decide (0 ≤ v_10)) && (decide (v_10 < (v_7.length : Int)))) then
      bif ((decide ((0 : Int) ≤ (0 : Int))) && (decide (0 < (v_9.length : Int)))) then
      bif ((decide ((0 : Int) ≤ (1 : Int))) && (decide (1 < (v_9.length : Int)))) then
      bif ((decide ((0 : Int) ≤ (0 : Int))) && (decide (0 < (v_9.length : Int)))) then
      bif ((decide ((0 : Int) ≤ (2 : Int))) && (decide (2 < (v_9.length : Int)))) then
      bif ((decide ((0 : Int) ≤ (1 : Int))) && (decide (1 < (v_9.length : Int)))) then
      bif ((decide ((0 : Int) ≤ (2 : Int))) && (decide (2 < (v_9.length : Int)))) then
      bif ((decide ((0 : Int) ≤ (0 : Int))) && (decide (0 < (v_9.length : Int)))) then
      (spec_l05S (v_9.getD (0 : Int).toNat 0) (4 : Int) (8192 : Int) (4194304 : Int) false).bind fun r1 =>
      k (.c2 t_0 o_1 v_10 (w32 ((w32 ((w32 ((w32 ((v_9.getD (7 : Int).toNat 0) + r0)) + (w32 (((BitVec.toNat ((BitVec.ofInt (IntKind.bits IntKind.u32) (w32 (((BitVec.toNat ((BitVec.ofInt (IntKind.bits IntKind.u32) (v_9.getD (4 : Int).toNat 0)) &&& (BitVec.ofInt (IntKind.bits IntKind.u32) (v_9.getD (5 : Int).toNat 0)))) : Nat) : Int))) ^^^ (BitVec.ofInt (IntKind.bits IntKind.u32) (w32 (((BitVec.toNat ((BitVec.ofInt (IntKind.bits IntKind.u32) (w32 (4294967295 - (v_9.getD (4 : Int).toNat 0)))) &&& (BitVec.ofInt (IntKind.bits IntKind.u32) (v_9.getD (6 : Int).toNat 0)))) : Nat) : Int))))) : Nat) : Int)))) + (o_1.getD v_10.toNat 0))) + (v_7.getD v_10.toNat 0))) (w32 (r1 + (w32 (((BitVec.toNat ((BitVec.ofInt (IntKind.bits IntKind.u32) (w32 (((BitVec.toNat ((BitVec.ofInt (IntKind.bits IntKind.u32) (w32 (((BitVec.toNat ((BitVec.ofInt (IntKind.bits IntKind.u32) (v_9.getD (0 : Int).toNat 0)) &&& (BitVec.ofInt (IntKind.bits IntKind.u32) (v_9.getD (1 : Int).toNat 0)))) : Nat) : Int))) ^^^ (BitVec.ofInt (IntKind.bits IntKind.u32) (w32 (((BitVec.toNat ((BitVec.ofInt (IntKind.bits IntKind.u32) (v_9.getD (0 : Int).toNat 0)) &&& (BitVec.ofInt (IntKind.bits IntKind.u32) (v_9.getD (2 : Int).toNat 0)))) : Nat) : Int))))) : Nat) : Int))) ^^^ (BitVec.ofInt (IntKind.bits IntKind.u32) (w32 (((BitVec.toNat ((BitVec.ofInt (IntKind.bits IntKind.u32) (v_9.getD (1 : Int).toNat 0)) &&& (BitVec.ofInt (IntKind.bits IntKind.u32) (v_9.getD (2 : Int).toNat 0)))) : Nat) : Int))))) : Nat) : Int)))) (7 : Int) v_7 v_9)
      else none
      else none
      else none
      else none
      else none
      else none
      else none
      else none
      else none
      else none
      else none
      else none
      else none
    else
      k (.c3 t_0 (0 : Int) v_9 [])
  | .c2 t_0 o_1 v_10 v_13 v_15 v_16 v_7 v_9 =>
    bif (decide (v_16 > 0)) then
      bif ((decide (0 ≤ (w64 (v_16 - 1)))) && (decide ((w64 (v_16 - 1)) < (v_9.length : Int)))) then
      bif ((decide (0 ≤ v_16)) && (decide (v_16 < (v_9.length : Int)))) then
      k (.c2 t_0 o_1 v_10 v_13 v_15 (w64 (v_16 - 1)) v_7 (v_9.set v_16.toNat (v_9.getD (w64 (v_16 - 1)).toNat 0)))
      else none
      else none
    else
      bif ((decide ((0 : Int) ≤ (4 : Int))) && (decide (4 < (v_9.length : Int)))) then
      bif ((decide ((0 : Int) ≤ (4 : Int))) && (decide (4 < (v_9.length : Int)))) then
      bif ((decide ((0 : Int) ≤ (0 : Int))) && (decide (0 < ((v_9.set (4 : Int).toNat (w32 ((v_9.getD (4 : Int).toNat 0) + v_13))).length : Int)))) then
      k (.c1 t_0 o_1 (w64 (v_10 + 1)) v_7 ((v_9.set (4 : Int).toNat (w32 ((v_9.getD (4 : Int).toNat 0) + v_13))).set (0 : Int).toNat (w32 (v_13 + v_15))))
      else none
      else none
      else none
  | .c3 t_0 v_18 v_9 v_17 =>
    bif (decide (v_18 < 8)) then
      bif ((decide (0 ≤ v_18)) && (decide (v_18 < (t_0.length : Int)))) then
      bif ((decide (0 ≤ v_18)) && (decide (v_18 < (v_9.length : Int)))) then
      bif (decide (((v_17.length + 1) * 4) ≤ 140737488355328)) then
      k (.c3 t_0 (w64 (v_18 + 1)) v_9 (v_17 ++ [(w32 ((t_0.getD v_18.toNat 0) + (v_9.getD v_18.toNat 0)))]))
      else none
      else none
      else none
    else
      some v_17
noncomputable def L_spec_l05Round : Nat → St_spec_l05Round → Option (List Int)
  | 0, _ => none
  | m + 1, s => B_spec_l05Round spec_l05Words spec_l05S (L_spec_l05Round m) s
noncomputable def spec_l05Round (t_0 : (List Int)) (o_1 : (List Int)) (A_2 : ByteArray) : Option (List Int) := E_spec_l05Round spec_l05Words spec_l05S (L_spec_l05Round gas) t_0 o_1 A_2
theorem e_spec_l05Round (spec_l05Words : ByteArray → Option (List Int)) (spec_l05S : Int → Int → Int → Int → Bool → Option Int) : EntryIs ctx PP 164 [] [(162, H_spec_l05Words spec_l05Words), (178, H_spec_l05S spec_l05S)] cv12 cv5 at_spec_l05Round (fun k a => E_spec_l05Round spec_l05Words spec_l05S k a.1 a.2.1 a.2.2) := fun stop a => by kernel_rfl
theorem b_spec_l05Round (spec_l05Words : ByteArray → Option (List Int)) (spec_l05S : Int → Int → Int → Int → Bool → Option Int) : CutIs ctx PP 164 Tryd.f164 [] [(162, H_spec_l05Words spec_l05Words), (178, H_spec_l05S spec_l05S)] cv5 at_spec_l05Round (B_spec_l05Round spec_l05Words spec_l05S) := fun stop s => by cases s <;> kernel_rfl
theorem i_spec_l05Round : ∀ s s', at_spec_l05Round s = at_spec_l05Round s' → s = s' := by
  intro s s' h
  cases s with
  | c0 v0 v1 v2 v3 => cases s' with
    | c0 w0 w1 w2 w3 => cases h; rfl
    | c1 w0 w1 w2 w3 w4 => exact (region_ne 3 8 h (by kernel_rfl) (by kernel_rfl) rfl).elim
    | c2 w0 w1 w2 w3 w4 w5 w6 w7 => exact (region_ne 3 16 h (by kernel_rfl) (by kernel_rfl) rfl).elim
    | c3 w0 w1 w2 w3 => exact (region_ne 3 23 h (by kernel_rfl) (by kernel_rfl) rfl).elim
  | c1 v0 v1 v2 v3 v4 => cases s' with
    | c0 w0 w1 w2 w3 => exact (region_ne 8 3 h (by kernel_rfl) (by kernel_rfl) rfl).elim
    | c1 w0 w1 w2 w3 w4 => cases h; rfl
    | c2 w0 w1 w2 w3 w4 w5 w6 w7 => exact (region_ne 8 16 h (by kernel_rfl) (by kernel_rfl) rfl).elim
    | c3 w0 w1 w2 w3 => exact (region_ne 8 23 h (by kernel_rfl) (by kernel_rfl) rfl).elim
  | c2 v0 v1 v2 v3 v4 v5 v6 v7 => cases s' with
    | c0 w0 w1 w2 w3 => exact (region_ne 16 3 h (by kernel_rfl) (by kernel_rfl) rfl).elim
    | c1 w0 w1 w2 w3 w4 => exact (region_ne 16 8 h (by kernel_rfl) (by kernel_rfl) rfl).elim
    | c2 w0 w1 w2 w3 w4 w5 w6 w7 => cases h; rfl
    | c3 w0 w1 w2 w3 => exact (region_ne 16 23 h (by kernel_rfl) (by kernel_rfl) rfl).elim
  | c3 v0 v1 v2 v3 => cases s' with
    | c0 w0 w1 w2 w3 => exact (region_ne 23 3 h (by kernel_rfl) (by kernel_rfl) rfl).elim
    | c1 w0 w1 w2 w3 w4 => exact (region_ne 23 8 h (by kernel_rfl) (by kernel_rfl) rfl).elim
    | c2 w0 w1 w2 w3 w4 w5 w6 w7 => exact (region_ne 23 16 h (by kernel_rfl) (by kernel_rfl) rfl).elim
    | c3 w0 w1 w2 w3 => cases h; rfl
theorem ok_spec_l05Round : Tells ctx PP 164 cv12 cv5 (fun a => spec_l05Round a.1 a.2.1 a.2.2) := fn_ok (hl_cons h_spec_l05Words (hl_cons h_spec_l05S hl_nil)) Tryd.func164 i_spec_l05Round (fun _ => rfl) (fun _ _ => rfl) (b_spec_l05Round spec_l05Words spec_l05S) (e_spec_l05Round spec_l05Words spec_l05S) gas
noncomputable def H_spec_l05Round {γ : Type} (F : (List Int) → (List Int) → ByteArray → Option (List Int)) : Hd ctx γ := hdl cv12.dec (fun a => F a.1 a.2.1 a.2.2) cv5.enc
theorem h_spec_l05Round {γ : Type} : HdOk (γ := γ) PP 164 (H_spec_l05Round spec_l05Round) := hd_ok ok_spec_l05Round
noncomputable def todo_spec_HashMore_0 : List Go.Item := [.code (cAt (bodyOf Tryd.f129) [1, 1, 1, 1, 1, 1, 0, 0, 0, 0, 0]), .code (cAt (bodyOf Tryd.f129) [1, 1, 1, 1, 1, 1, 0, 0, 0, 0, 1]), .code (cAt (bodyOf Tryd.f129) [1, 1, 1, 1, 1, 1, 0, 0, 0, 1]), .inLoop (cAt (bodyOf Tryd.f129) [1, 1, 1, 1, 1, 1, 0, 0, 0]), .inBlock 0, .code (cAt (bodyOf Tryd.f129) [1, 1, 1, 1, 1, 1, 1])]
inductive St_spec_HashMore where
  | c0 (s_1 : ByteArray) (buf_7 : ByteArray) (at_8 : Int) (h_2 : SHasher) (v_4 : SHasher) (state_5 : (List Int)) (k_6 : (List Int))
noncomputable def at_spec_HashMore : St_spec_HashMore → LI
  | .c0 s_1 buf_7 at_8 h_2 v_4 state_5 k_6 => (todo_spec_HashMore_0, [(1, [.one (.str s_1)]), (2, [.one (.ptr 128 0)]), (4, [.one (.ptr 256 0)]), (5, [.one (.own 368)]), (6, [.one (.own 432)]), (7, [.one (.str buf_7)]), (8, [.one (.int .i64 at_8)])], [(128, .var [.str h_2.fState, .str h_2.fRest, .int .i64 h_2.fCount]), (256, .var [.str v_4.fState, .str v_4.fRest, .int .i64 v_4.fCount]), (368, .sl 138 state_5), (432, .sl 138 k_6)])
noncomputable def E_spec_HashMore (spec_HasherOk : SHasher → Option Bool) (spec_l05Words : ByteArray → Option (List Int)) (spec_l05K : Option (List Int)) (spec_l05Round : (List Int) → (List Int) → ByteArray → Option (List Int)) (spec_l05Bytes : (List Int) → Option ByteArray) (k : St_spec_HashMore → Option SHasher) (h_0 : SHasher) (s_1 : ByteArray) : Option SHasher :=
  (spec_HasherOk h_0).bind fun r0 =>
  bif (!r0) then
    some h_0
  else
    bif (decide ((w64 (h_0.fCount + (s_1.size : Int))) > 1000000000)) then
      some h_0
    else
      (spec_l05Words h_0.fState).bind fun r1 =>
      spec_l05K.bind fun r2 =>
      bif (decide ((h_0.fRest.size + s_1.size) ≤ 9223372036854775807)) then
      k (.c0 s_1 (h_0.fRest ++ s_1) (0 : Int) h_0 (⟨(⟨#[]⟩ : ByteArray), (⟨#[]⟩ : ByteArray), (0 : Int)⟩ : SHasher) r1 r2)
      else none
noncomputable def B_spec_HashMore (spec_HasherOk : SHasher → Option Bool) (spec_l05Words : ByteArray → Option (List Int)) (spec_l05K : Option (List Int)) (spec_l05Round : (List Int) → (List Int) → ByteArray → Option (List Int)) (spec_l05Bytes : (List Int) → Option ByteArray) (k : St_spec_HashMore → Option SHasher) : St_spec_HashMore → Option SHasher
  | .c0 s_1 buf_7 at_8 h_2 v_4 state_5 k_6 =>
    bif (decide ((w64 (at_8 + 64)) ≤ (buf_7.size : Int))) then
      bif (((decide (0 ≤ at_8)) && (decide (at_8 ≤ (w64 (at_8 + 64))))) && (decide ((w64 (at_8 + 64)) ≤ (buf_7.size : Int)))) then
      (spec_l05Round state_5 k_6 (buf_7.extract at_8.toNat (w64 (at_8 + 64)).toNat)).bind fun r0 =>
      k (.c0 s_1 buf_7 (w64 (at_8 + 64)) h_2 v_4 r0 k_6)
      else none
    else
      (spec_l05Bytes state_5).bind fun r1 =>
      bif ((decide (0 ≤ at_8)) && (decide (at_8 ≤ (buf_7.size : Int)))) then
      some (⟨r1, (buf_7.extract at_8.toNat buf_7.size), (w64 (h_2.fCount + (s_1.size : Int)))⟩ : SHasher)
      else none
noncomputable def L_spec_HashMore : Nat → St_spec_HashMore → Option SHasher
  | 0, _ => none
  | m + 1, s => B_spec_HashMore spec_HasherOk spec_l05Words spec_l05K spec_l05Round spec_l05Bytes (L_spec_HashMore m) s
noncomputable def spec_HashMore (h_0 : SHasher) (s_1 : ByteArray) : Option SHasher := E_spec_HashMore spec_HasherOk spec_l05Words spec_l05K spec_l05Round spec_l05Bytes (L_spec_HashMore gas) h_0 s_1
theorem e_spec_HashMore (spec_HasherOk : SHasher → Option Bool) (spec_l05Words : ByteArray → Option (List Int)) (spec_l05K : Option (List Int)) (spec_l05Round : (List Int) → (List Int) → ByteArray → Option (List Int)) (spec_l05Bytes : (List Int) → Option ByteArray) : EntryIs ctx PP 129 [] [(161, H_spec_HasherOk spec_HasherOk), (162, H_spec_l05Words spec_l05Words), (163, H_spec_l05K spec_l05K), (164, H_spec_l05Round spec_l05Round), (165, H_spec_l05Bytes spec_l05Bytes)] cv13 cv7 at_spec_HashMore (fun k a => E_spec_HashMore spec_HasherOk spec_l05Words spec_l05K spec_l05Round spec_l05Bytes k a.1 a.2) := fun stop a => by kernel_rfl
theorem b_spec_HashMore (spec_HasherOk : SHasher → Option Bool) (spec_l05Words : ByteArray → Option (List Int)) (spec_l05K : Option (List Int)) (spec_l05Round : (List Int) → (List Int) → ByteArray → Option (List Int)) (spec_l05Bytes : (List Int) → Option ByteArray) : CutIs ctx PP 129 Tryd.f129 [] [(161, H_spec_HasherOk spec_HasherOk), (162, H_spec_l05Words spec_l05Words), (163, H_spec_l05K spec_l05K), (164, H_spec_l05Round spec_l05Round), (165, H_spec_l05Bytes spec_l05Bytes)] cv7 at_spec_HashMore (B_spec_HashMore spec_HasherOk spec_l05Words spec_l05K spec_l05Round spec_l05Bytes) := fun stop s => by cases s <;> kernel_rfl
theorem i_spec_HashMore : ∀ s s', at_spec_HashMore s = at_spec_HashMore s' → s = s' := by
  intro s s' h
  cases s with
  | c0 v0 v1 v2 v3 v4 v5 v6 => cases s' with
    | c0 w0 w1 w2 w3 w4 w5 w6 => obtain ⟨_, _, _⟩ := v3; obtain ⟨_, _, _⟩ := w3; obtain ⟨_, _, _⟩ := v4; obtain ⟨_, _, _⟩ := w4; cases h; rfl
theorem ok_spec_HashMore : Tells ctx PP 129 cv13 cv7 (fun a => spec_HashMore a.1 a.2) := fn_ok (hl_cons h_spec_HasherOk (hl_cons h_spec_l05Words (hl_cons h_spec_l05K (hl_cons h_spec_l05Round (hl_cons h_spec_l05Bytes hl_nil))))) Tryd.func129 i_spec_HashMore (fun _ => rfl) (fun _ _ => rfl) (b_spec_HashMore spec_HasherOk spec_l05Words spec_l05K spec_l05Round spec_l05Bytes) (e_spec_HashMore spec_HasherOk spec_l05Words spec_l05K spec_l05Round spec_l05Bytes) gas
noncomputable def H_spec_HashMore {γ : Type} (F : SHasher → ByteArray → Option SHasher) : Hd ctx γ := hdl cv13.dec (fun a => F a.1 a.2) cv7.enc
theorem h_spec_HashMore {γ : Type} : HdOk (γ := γ) PP 129 (H_spec_HashMore spec_HashMore) := hd_ok ok_spec_HashMore
noncomputable def todo_spec_HashEnd_0 : List Go.Item := [.code (cAt (bodyOf Tryd.f128) [1, 1, 1, 1, 0, 0, 0, 0, 0]), .code (cAt (bodyOf Tryd.f128) [1, 1, 1, 1, 0, 0, 0, 0, 1]), .code (cAt (bodyOf Tryd.f128) [1, 1, 1, 1, 0, 0, 0, 1]), .inLoop (cAt (bodyOf Tryd.f128) [1, 1, 1, 1, 0, 0, 0]), .inBlock 0, .code (cAt (bodyOf Tryd.f128) [1, 1, 1, 1, 1])]
noncomputable def todo_spec_HashEnd_1 : List Go.Item := [.code (cAt (bodyOf Tryd.f128) [1, 1, 1, 1, 1, 1, 0, 1, 0, 0, 0, 0]), .code (cAt (bodyOf Tryd.f128) [1, 1, 1, 1, 1, 1, 0, 1, 0, 0, 0, 1]), .code (cAt (bodyOf Tryd.f128) [1, 1, 1, 1, 1, 1, 0, 1, 0, 0, 1]), .inLoop (cAt (bodyOf Tryd.f128) [1, 1, 1, 1, 1, 1, 0, 1, 0, 0]), .inBlock 2, .code (cAt (bodyOf Tryd.f128) [1, 1, 1, 1, 1, 1, 1])]
noncomputable def todo_spec_HashEnd_2 : List Go.Item := [.code (cAt (bodyOf Tryd.f128) [1, 1, 1, 1, 1, 1, 0, 1, 0, 0, 1, 0, 0, 1, 0, 1, 0, 0, 0, 0]), .code (cAt (bodyOf Tryd.f128) [1, 1, 1, 1, 1, 1, 0, 1, 0, 0, 1, 0, 0, 1, 0, 1, 0, 0, 0, 1]), .code (cAt (bodyOf Tryd.f128) [1, 1, 1, 1, 1, 1, 0, 1, 0, 0, 1, 0, 0, 1, 0, 1, 0, 0, 1]), .inLoop (cAt (bodyOf Tryd.f128) [1, 1, 1, 1, 1, 1, 0, 1, 0, 0, 1, 0, 0, 1, 0, 1, 0, 0]), .inBlock 4, .code (cAt (bodyOf Tryd.f128) [1, 1, 1, 1, 1, 1, 0, 1, 0, 0, 1, 0, 0, 1, 1]), .inBlock 3, .code (cAt (bodyOf Tryd.f128) [1, 1, 1, 1, 1, 1, 0, 1, 0, 0, 1, 1]), .inLoop (cAt (bodyOf Tryd.f128) [1, 1, 1, 1, 1, 1, 0, 1, 0, 0]), .inBlock 2, .code (cAt (bodyOf Tryd.f128) [1, 1, 1, 1, 1, 1, 1])]
noncomputable def todo_spec_HashEnd_3 : List Go.Item := [.code (cAt (bodyOf Tryd.f128) [1, 1, 1, 1, 1, 1, 1, 1, 1, 0, 1, 0, 0, 0, 0]), .code (cAt (bodyOf Tryd.f128) [1, 1, 1, 1, 1, 1, 1, 1, 1, 0, 1, 0, 0, 0, 1]), .code (cAt (bodyOf Tryd.f128) [1, 1, 1, 1, 1, 1, 1, 1, 1, 0, 1, 0, 0, 1]), .inLoop (cAt (bodyOf Tryd.f128) [1, 1, 1, 1, 1, 1, 1, 1, 1, 0, 1, 0, 0]), .inBlock 6, .code (cAt (bodyOf Tryd.f128) [1, 1, 1, 1, 1, 1, 1, 1, 1, 1])]
inductive St_spec_HashEnd where
  | c0 (h_1 : SHasher) (tail_3 : (List Int))
  | c1 (bits_4 : Int) (i_5 : Int) (h_1 : SHasher) (tail_3 : (List Int))
  | c2 (bits_4 : Int) (i_5 : Int) (x_6 : Int) (k_7 : Int) (h_1 : SHasher) (tail_3 : (List Int))
  | c3 (at_10 : Int) (tail_3 : (List Int)) (state_8 : (List Int)) (k_9 : (List Int))
noncomputable def at_spec_HashEnd : St_spec_HashEnd → LI
  | .c0 h_1 tail_3 => (todo_spec_HashEnd_0, [(1, [.one (.ptr 64 0)]), (3, [.one (.own 240)])], [(64, .var [.str h_1.fState, .str h_1.fRest, .int .i64 h_1.fCount]), (240, .sl 5 tail_3)])
  | .c1 bits_4 i_5 h_1 tail_3 => (todo_spec_HashEnd_1, [(1, [.one (.ptr 64 0)]), (3, [.one (.own 240)]), (4, [.one (.int .i64 bits_4)]), (5, [.one (.int .i64 i_5)])], [(64, .var [.str h_1.fState, .str h_1.fRest, .int .i64 h_1.fCount]), (240, .sl 5 tail_3)])
  | .c2 bits_4 i_5 x_6 k_7 h_1 tail_3 => (todo_spec_HashEnd_2, [(1, [.one (.ptr 64 0)]), (3, [.one (.own 240)]), (4, [.one (.int .i64 bits_4)]), (5, [.one (.int .i64 i_5)]), (6, [.one (.int .i64 x_6)]), (7, [.one (.int .i64 k_7)])], [(64, .var [.str h_1.fState, .str h_1.fRest, .int .i64 h_1.fCount]), (240, .sl 5 tail_3)])
  | .c3 at_10 tail_3 state_8 k_9 => (todo_spec_HashEnd_3, [(3, [.one (.own 240)]), (8, [.one (.own 560)]), (9, [.one (.own 624)]), (10, [.one (.int .i64 at_10)])], [(240, .sl 5 tail_3), (560, .sl 138 state_8), (624, .sl 138 k_9)])
noncomputable def E_spec_HashEnd (spec_HasherOk : SHasher → Option Bool) (spec_l05Words : ByteArray → Option (List Int)) (spec_l05K : Option (List Int)) (spec_l05Round : (List Int) → (List Int) → ByteArray → Option (List Int)) (spec_l05Bytes : (List Int) → Option ByteArray) (k : St_spec_HashEnd → Option ByteArray) (h_0 : SHasher) : Option ByteArray :=
  (spec_HasherOk h_0).bind fun r0 =>
  bif (!r0) then
    some (⟨#[]⟩ : ByteArray)
  else
    bif (decide (h_0.fRest.size ≤ 9223372036854775807)) then
    bif (decide ((((bytesOf h_0.fRest).length + 1) * 1) ≤ 140737488355328)) then
    k (.c0 h_0 ((bytesOf h_0.fRest) ++ [(128 : Int)]))
    else none
    else none
noncomputable def B_spec_HashEnd (spec_HasherOk : SHasher → Option Bool) (spec_l05Words : ByteArray → Option (List Int)) (spec_l05K : Option (List Int)) (spec_l05Round : (List Int) → (List Int) → ByteArray → Option (List Int)) (spec_l05Bytes : (List Int) → Option ByteArray) (k : St_spec_HashEnd → Option ByteArray) : St_spec_HashEnd → Option ByteArray
  | .c0 h_1 tail_3 =>
    bif (((tail_3.length : Int).tmod 64) != 56) then
      bif (decide (((tail_3.length + 1) * 1) ≤ 140737488355328)) then
      k (.c0 h_1 (tail_3 ++ [(0 : Int)]))
      else none
    else
      k (.c1 (w64 (8 * h_1.fCount)) (7 : Int) h_1 tail_3)
  | .c1 bits_4 i_5 h_1 tail_3 =>
    bif (decide (i_5 ≥ 0)) then
      k (.c2 bits_4 i_5 bits_4 (0 : Int) h_1 tail_3)
    else
      (spec_l05Words h_1.fState).bind fun r0 =>
      spec_l05K.bind fun r1 =>
      k (.c3 (0 : Int) tail_3 r0 r1)
  | .c2 bits_4 i_5 x_6 k_7 h_1 tail_3 =>
    bif (decide (k_7 < i_5)) then
      k (.c2 bits_4 i_5 (w64 (x_6.tdiv 256)) (w64 (k_7 + 1)) h_1 tail_3)
    else
      bif (decide (((tail_3.length + 1) * 1) ≤ 140737488355328)) then
      k (.c1 bits_4 (w64 (i_5 - 1)) h_1 (tail_3 ++ [(w8 (x_6.tmod 256))]))
      else none
  | .c3 at_10 tail_3 state_8 k_9 =>
    bif (decide (at_10 < (tail_3.length : Int))) then
      bif (((decide (0 ≤ at_10)) && (decide (at_10 ≤ (w64 (at_10 + 64))))) && (decide ((w64 (at_10 + 64)) ≤ (tail_3.length : Int)))) then
      (spec_l05Round state_8 k_9 (ofBytes ((tail_3.drop at_10.toNat).take ((w64 (at_10 + 64)).toNat - at_10.toNat)))).bind fun r0 =>
      k (.c3 (w64 (at_10 + 64)) tail_3 r0 k_9)
      else none
    else
      (spec_l05Bytes state_8).bind fun r1 =>
      some r1
noncomputable def L_spec_HashEnd : Nat → St_spec_HashEnd → Option ByteArray
  | 0, _ => none
  | m + 1, s => B_spec_HashEnd spec_HasherOk spec_l05Words spec_l05K spec_l05Round spec_l05Bytes (L_spec_HashEnd m) s
noncomputable def spec_HashEnd (h_0 : SHasher) : Option ByteArray := E_spec_HashEnd spec_HasherOk spec_l05Words spec_l05K spec_l05Round spec_l05Bytes (L_spec_HashEnd gas) h_0
theorem e_spec_HashEnd (spec_HasherOk : SHasher → Option Bool) (spec_l05Words : ByteArray → Option (List Int)) (spec_l05K : Option (List Int)) (spec_l05Round : (List Int) → (List Int) → ByteArray → Option (List Int)) (spec_l05Bytes : (List Int) → Option ByteArray) : EntryIs ctx PP 128 [] [(161, H_spec_HasherOk spec_HasherOk), (162, H_spec_l05Words spec_l05Words), (163, H_spec_l05K spec_l05K), (164, H_spec_l05Round spec_l05Round), (165, H_spec_l05Bytes spec_l05Bytes)] cv7 cv1 at_spec_HashEnd (fun k a => E_spec_HashEnd spec_HasherOk spec_l05Words spec_l05K spec_l05Round spec_l05Bytes k a) := fun stop a => by kernel_rfl
theorem b_spec_HashEnd (spec_HasherOk : SHasher → Option Bool) (spec_l05Words : ByteArray → Option (List Int)) (spec_l05K : Option (List Int)) (spec_l05Round : (List Int) → (List Int) → ByteArray → Option (List Int)) (spec_l05Bytes : (List Int) → Option ByteArray) : CutIs ctx PP 128 Tryd.f128 [] [(161, H_spec_HasherOk spec_HasherOk), (162, H_spec_l05Words spec_l05Words), (163, H_spec_l05K spec_l05K), (164, H_spec_l05Round spec_l05Round), (165, H_spec_l05Bytes spec_l05Bytes)] cv1 at_spec_HashEnd (B_spec_HashEnd spec_HasherOk spec_l05Words spec_l05K spec_l05Round spec_l05Bytes) := fun stop s => by cases s <;> kernel_rfl
theorem i_spec_HashEnd : ∀ s s', at_spec_HashEnd s = at_spec_HashEnd s' → s = s' := by
  intro s s' h
  cases s with
  | c0 v0 v1 => cases s' with
    | c0 w0 w1 => obtain ⟨_, _, _⟩ := v0; obtain ⟨_, _, _⟩ := w0; cases h; rfl
    | c1 w0 w1 w2 w3 => exact (region_ne 5 9 h (by kernel_rfl) (by kernel_rfl) rfl).elim
    | c2 w0 w1 w2 w3 w4 w5 => exact (region_ne 5 13 h (by kernel_rfl) (by kernel_rfl) rfl).elim
    | c3 w0 w1 w2 w3 => exact (region_ne 5 20 h (by kernel_rfl) (by kernel_rfl) rfl).elim
  | c1 v0 v1 v2 v3 => cases s' with
    | c0 w0 w1 => exact (region_ne 9 5 h (by kernel_rfl) (by kernel_rfl) rfl).elim
    | c1 w0 w1 w2 w3 => obtain ⟨_, _, _⟩ := v2; obtain ⟨_, _, _⟩ := w2; cases h; rfl
    | c2 w0 w1 w2 w3 w4 w5 => exact (region_ne 9 13 h (by kernel_rfl) (by kernel_rfl) rfl).elim
    | c3 w0 w1 w2 w3 => exact (region_ne 9 20 h (by kernel_rfl) (by kernel_rfl) rfl).elim
  | c2 v0 v1 v2 v3 v4 v5 => cases s' with
    | c0 w0 w1 => exact (region_ne 13 5 h (by kernel_rfl) (by kernel_rfl) rfl).elim
    | c1 w0 w1 w2 w3 => exact (region_ne 13 9 h (by kernel_rfl) (by kernel_rfl) rfl).elim
    | c2 w0 w1 w2 w3 w4 w5 => obtain ⟨_, _, _⟩ := v4; obtain ⟨_, _, _⟩ := w4; cases h; rfl
    | c3 w0 w1 w2 w3 => exact (region_ne 13 20 h (by kernel_rfl) (by kernel_rfl) rfl).elim
  | c3 v0 v1 v2 v3 => cases s' with
    | c0 w0 w1 => exact (region_ne 20 5 h (by kernel_rfl) (by kernel_rfl) rfl).elim
    | c1 w0 w1 w2 w3 => exact (region_ne 20 9 h (by kernel_rfl) (by kernel_rfl) rfl).elim
    | c2 w0 w1 w2 w3 w4 w5 => exact (region_ne 20 13 h (by kernel_rfl) (by kernel_rfl) rfl).elim
    | c3 w0 w1 w2 w3 => cases h; rfl
theorem ok_spec_HashEnd : Tells ctx PP 128 cv7 cv1 (fun a => spec_HashEnd a) := fn_ok (hl_cons h_spec_HasherOk (hl_cons h_spec_l05Words (hl_cons h_spec_l05K (hl_cons h_spec_l05Round (hl_cons h_spec_l05Bytes hl_nil))))) Tryd.func128 i_spec_HashEnd (fun _ => rfl) (fun _ _ => rfl) (b_spec_HashEnd spec_HasherOk spec_l05Words spec_l05K spec_l05Round spec_l05Bytes) (e_spec_HashEnd spec_HasherOk spec_l05Words spec_l05K spec_l05Round spec_l05Bytes) gas
noncomputable def H_spec_HashEnd {γ : Type} (F : SHasher → Option ByteArray) : Hd ctx γ := hdl cv7.dec (fun a => F a) cv1.enc
theorem h_spec_HashEnd {γ : Type} : HdOk (γ := γ) PP 128 (H_spec_HashEnd spec_HashEnd) := hd_ok ok_spec_HashEnd
noncomputable def E_spec_DigestOf (spec_HasherNew : Option SHasher) (spec_HashMore : SHasher → ByteArray → Option SHasher) (spec_HashEnd : SHasher → Option ByteArray) (s_0 : ByteArray) : Option ByteArray :=
  spec_HasherNew.bind fun r0 =>
  (spec_HashMore r0 s_0).bind fun r1 =>
  (spec_HashEnd r1).bind fun r2 =>
  some r2
noncomputable def spec_DigestOf (s_0 : ByteArray) : Option ByteArray := E_spec_DigestOf spec_HasherNew spec_HashMore spec_HashEnd s_0
theorem e_spec_DigestOf (spec_HasherNew : Option SHasher) (spec_HashMore : SHasher → ByteArray → Option SHasher) (spec_HashEnd : SHasher → Option ByteArray) : EntryIs0 ctx PP 78 [] [(130, H_spec_HasherNew spec_HasherNew), (129, H_spec_HashMore spec_HashMore), (128, H_spec_HashEnd spec_HashEnd)] cv1 cv1 (fun a => E_spec_DigestOf spec_HasherNew spec_HashMore spec_HashEnd a) := fun a => by kernel_rfl
theorem ok_spec_DigestOf : Tells ctx PP 78 cv1 cv1 (fun a => spec_DigestOf a) := fn_ok0 (hl_cons h_spec_HasherNew (hl_cons h_spec_HashMore (hl_cons h_spec_HashEnd hl_nil))) Tryd.func78 (e_spec_DigestOf spec_HasherNew spec_HashMore spec_HashEnd)
noncomputable def H_spec_DigestOf {γ : Type} (F : ByteArray → Option ByteArray) : Hd ctx γ := hdl cv1.dec (fun a => F a) cv1.enc
theorem h_spec_DigestOf {γ : Type} : HdOk (γ := γ) PP 78 (H_spec_DigestOf spec_DigestOf) := hd_ok ok_spec_DigestOf
noncomputable def todo_spec_l06Mask_0 : List Go.Item := [.code (cAt (bodyOf Tryd.f175) [1, 1, 1, 0, 1, 0, 0, 0, 0]), .code (cAt (bodyOf Tryd.f175) [1, 1, 1, 0, 1, 0, 0, 0, 1]), .code (cAt (bodyOf Tryd.f175) [1, 1, 1, 0, 1, 0, 0, 1]), .inLoop (cAt (bodyOf Tryd.f175) [1, 1, 1, 0, 1, 0, 0]), .inBlock 0, .code (cAt (bodyOf Tryd.f175) [1, 1, 1, 1])]
inductive St_spec_l06Mask where
  | c0 (key_0 : ByteArray) (x_1 : Int) (i_6 : Int) (out_5 : (List Int))
noncomputable def at_spec_l06Mask : St_spec_l06Mask → LI
  | .c0 key_0 x_1 i_6 out_5 => (todo_spec_l06Mask_0, [(0, [.one (.str key_0)]), (1, [.one (.int .u8 x_1)]), (5, [.one (.own 368)]), (6, [.one (.int .i64 i_6)])], [(368, .sl 5 out_5)])
noncomputable def E_spec_l06Mask (spec_DigestOf : ByteArray → Option ByteArray) (k : St_spec_l06Mask → Option ByteArray) (key_0 : ByteArray) (x_1 : Int) : Option ByteArray :=
  bif (decide ((key_0.size : Int) > 64)) then
    (spec_DigestOf key_0).bind fun r0 =>
    k (.c0 r0 x_1 (0 : Int) (List.replicate (64 : Int).toNat (0 : Int)))
  else
    k (.c0 key_0 x_1 (0 : Int) (List.replicate (64 : Int).toNat (0 : Int)))
noncomputable def B_spec_l06Mask (spec_DigestOf : ByteArray → Option ByteArray) (k : St_spec_l06Mask → Option ByteArray) : St_spec_l06Mask → Option ByteArray
  | .c0 key_0 x_1 i_6 out_5 =>
    bif (decide (i_6 < 64)) then
      bif (decide (i_6 < (key_0.size : Int))) then
        bif ((decide (0 ≤ i_6)) && (decide (i_6 < (key_0.size : Int)))) then
        bif ((decide (0 ≤ i_6)) && (decide (i_6 < (out_5.length : Int)))) then
        bif ((decide (0 ≤ i_6)) && (decide (i_6 < ((out_5.set i_6.toNat (bt key_0 i_6)).length : Int)))) then
        bif ((decide (0 ≤ i_6)) && (decide (i_6 < ((out_5.set i_6.toNat (bt key_0 i_6)).length : Int)))) then
        k (.c0 key_0 x_1 (w64 (i_6 + 1)) ((out_5.set i_6.toNat (bt key_0 i_6)).set i_6.toNat (w8 (((BitVec.toNat ((BitVec.ofInt (IntKind.bits IntKind.u8) ((out_5.set i_6.toNat (bt key_0 i_6)).getD i_6.toNat 0)) ^^^ (BitVec.ofInt (IntKind.bits IntKind.u8) x_1))) : Nat) : Int))))
        else none
        else none
        else none
        else none
      else
        bif ((decide (0 ≤ i_6)) && (decide (i_6 < (out_5.length : Int)))) then
        bif ((decide (0 ≤ i_6)) && (decide (i_6 < (out_5.length : Int)))) then
        k (.c0 key_0 x_1 (w64 (i_6 + 1)) (out_5.set i_6.toNat (w8 (((BitVec.toNat ((BitVec.ofInt (IntKind.bits IntKind.u8) (out_5.getD i_6.toNat 0)) ^^^ (BitVec.ofInt (IntKind.bits IntKind.u8) x_1))) : Nat) : Int))))
        else none
        else none
    else
      some (ofBytes out_5)
noncomputable def L_spec_l06Mask : Nat → St_spec_l06Mask → Option ByteArray
  | 0, _ => none
  | m + 1, s => B_spec_l06Mask spec_DigestOf (L_spec_l06Mask m) s
noncomputable def spec_l06Mask (key_0 : ByteArray) (x_1 : Int) : Option ByteArray := E_spec_l06Mask spec_DigestOf (L_spec_l06Mask gas) key_0 x_1
theorem e_spec_l06Mask (spec_DigestOf : ByteArray → Option ByteArray) : EntryIs ctx PP 175 [] [(78, H_spec_DigestOf spec_DigestOf)] cv14 cv1 at_spec_l06Mask (fun k a => E_spec_l06Mask spec_DigestOf k a.1 a.2) := fun stop a => by kernel_rfl
theorem b_spec_l06Mask (spec_DigestOf : ByteArray → Option ByteArray) : CutIs ctx PP 175 Tryd.f175 [] [(78, H_spec_DigestOf spec_DigestOf)] cv1 at_spec_l06Mask (B_spec_l06Mask spec_DigestOf) := fun stop s => by cases s <;> kernel_rfl
theorem i_spec_l06Mask : ∀ s s', at_spec_l06Mask s = at_spec_l06Mask s' → s = s' := by
  intro s s' h
  cases s with
  | c0 v0 v1 v2 v3 => cases s' with
    | c0 w0 w1 w2 w3 => cases h; rfl
theorem ok_spec_l06Mask : Tells ctx PP 175 cv14 cv1 (fun a => spec_l06Mask a.1 a.2) := fn_ok (hl_cons h_spec_DigestOf hl_nil) Tryd.func175 i_spec_l06Mask (fun _ => rfl) (fun _ _ => rfl) (b_spec_l06Mask spec_DigestOf) (e_spec_l06Mask spec_DigestOf) gas
noncomputable def H_spec_l06Mask {γ : Type} (F : ByteArray → Int → Option ByteArray) : Hd ctx γ := hdl cv14.dec (fun a => F a.1 a.2) cv1.enc
theorem h_spec_l06Mask {γ : Type} : HdOk (γ := γ) PP 175 (H_spec_l06Mask spec_l06Mask) := hd_ok ok_spec_l06Mask
noncomputable def E_spec_MacOf (spec_l06Mask : ByteArray → Int → Option ByteArray) (spec_DigestOf : ByteArray → Option ByteArray) (key_0 : ByteArray) (s_1 : ByteArray) : Option ByteArray :=
  (spec_l06Mask key_0 (92 : Int)).bind fun r0 =>
  (spec_l06Mask key_0 (54 : Int)).bind fun r1 =>
  bif (decide ((r1.size + s_1.size) ≤ 9223372036854775807)) then
  (spec_DigestOf (r1 ++ s_1)).bind fun r2 =>
  bif (decide ((r0.size + r2.size) ≤ 9223372036854775807)) then
  (spec_DigestOf (r0 ++ r2)).bind fun r3 =>
  some r3
  else none
  else none
noncomputable def spec_MacOf (key_0 : ByteArray) (s_1 : ByteArray) : Option ByteArray := E_spec_MacOf spec_l06Mask spec_DigestOf key_0 s_1
theorem e_spec_MacOf (spec_l06Mask : ByteArray → Int → Option ByteArray) (spec_DigestOf : ByteArray → Option ByteArray) : EntryIs0 ctx PP 151 [] [(175, H_spec_l06Mask spec_l06Mask), (78, H_spec_DigestOf spec_DigestOf)] cv15 cv1 (fun a => E_spec_MacOf spec_l06Mask spec_DigestOf a.1 a.2) := fun a => by kernel_rfl
theorem ok_spec_MacOf : Tells ctx PP 151 cv15 cv1 (fun a => spec_MacOf a.1 a.2) := fn_ok0 (hl_cons h_spec_l06Mask (hl_cons h_spec_DigestOf hl_nil)) Tryd.func151 (e_spec_MacOf spec_l06Mask spec_DigestOf)
noncomputable def H_spec_MacOf {γ : Type} (F : ByteArray → ByteArray → Option ByteArray) : Hd ctx γ := hdl cv15.dec (fun a => F a.1 a.2) cv1.enc
theorem h_spec_MacOf {γ : Type} : HdOk (γ := γ) PP 151 (H_spec_MacOf spec_MacOf) := hd_ok ok_spec_MacOf
noncomputable def todo_spec_Mask_0 : List Go.Item := [.code (cAt (bodyOf Tryd.f108) [1, 1, 1, 0, 1, 0, 0, 0, 0]), .code (cAt (bodyOf Tryd.f108) [1, 1, 1, 0, 1, 0, 0, 0, 1]), .code (cAt (bodyOf Tryd.f108) [1, 1, 1, 0, 1, 0, 0, 1]), .inLoop (cAt (bodyOf Tryd.f108) [1, 1, 1, 0, 1, 0, 0]), .inBlock 0, .code (cAt (bodyOf Tryd.f108) [1, 1, 1, 1])]
inductive St_spec_Mask where
  | c0 (key_0 : ByteArray) (num_1 : Int) (n_2 : Int) (i_9 : Int) (out_8 : (List Int))
noncomputable def at_spec_Mask : St_spec_Mask → LI
  | .c0 key_0 num_1 n_2 i_9 out_8 => (todo_spec_Mask_0, [(0, [.one (.str key_0)]), (1, [.one (.int .i64 num_1)]), (2, [.one (.int .i64 n_2)]), (8, [.one (.own 560)]), (9, [.one (.int .i64 i_9)])], [(560, .sl 5 out_8)])
noncomputable def E_spec_Mask (spec_l01In : Int → Int → Int → Option Bool) (spec_l01Var : Int → Option ByteArray) (spec_l06Byte : Int → Option ByteArray) (spec_MacOf : ByteArray → ByteArray → Option ByteArray) (k : St_spec_Mask → Option (ByteArray × Bool)) (key_0 : ByteArray) (num_1 : Int) (n_2 : Int) : Option (ByteArray × Bool) :=
  (spec_l01In num_1 (0 : Int) (1000000000 : Int)).bind fun r0 =>
  bif (!r0) then
    some ((⟨#[]⟩ : ByteArray), false)
  else
    (spec_l01In n_2 (0 : Int) (8000 : Int)).bind fun r1 =>
    bif (!r1) then
      some ((⟨#[]⟩ : ByteArray), false)
    else
      k (.c0 key_0 num_1 n_2 (0 : Int) [])
noncomputable def B_spec_Mask (spec_l01In : Int → Int → Int → Option Bool) (spec_l01Var : Int → Option ByteArray) (spec_l06Byte : Int → Option ByteArray) (spec_MacOf : ByteArray → ByteArray → Option ByteArray) (k : St_spec_Mask → Option (ByteArray × Bool)) : St_spec_Mask → Option (ByteArray × Bool)
  | .c0 key_0 num_1 n_2 i_9 out_8 =>
    bif (decide ((out_8.length : Int) < n_2)) then
      (spec_l01Var num_1).bind fun r0 =>
      bif (decide (((⟨#[109]⟩ : ByteArray).size + r0.size) ≤ 9223372036854775807)) then
      (spec_l06Byte i_9).bind fun r1 =>
      bif (decide ((((⟨#[109]⟩ : ByteArray) ++ r0).size + r1.size) ≤ 9223372036854775807)) then
      (spec_MacOf key_0 (((⟨#[109]⟩ : ByteArray) ++ r0) ++ r1)).bind fun r2 =>
      bif (decide (r2.size ≤ 9223372036854775807)) then
      bif (decide (((out_8.length + (bytesOf r2).length) * 1) ≤ 140737488355328)) then
      k (.c0 key_0 num_1 n_2 (w64 (i_9 + 1)) (out_8 ++ (bytesOf r2)))
      else none
      else none
      else none
      else none
    else
      bif ((decide (0 ≤ n_2)) && (decide (n_2 ≤ (out_8.length : Int)))) then
      some ((ofBytes ((out_8.drop 0).take (n_2.toNat - 0))), true)
      else none
noncomputable def L_spec_Mask : Nat → St_spec_Mask → Option (ByteArray × Bool)
  | 0, _ => none
  | m + 1, s => B_spec_Mask spec_l01In spec_l01Var spec_l06Byte spec_MacOf (L_spec_Mask m) s
noncomputable def spec_Mask (key_0 : ByteArray) (num_1 : Int) (n_2 : Int) : Option (ByteArray × Bool) := E_spec_Mask spec_l01In spec_l01Var spec_l06Byte spec_MacOf (L_spec_Mask gas) key_0 num_1 n_2
theorem e_spec_Mask (spec_l01In : Int → Int → Int → Option Bool) (spec_l01Var : Int → Option ByteArray) (spec_l06Byte : Int → Option ByteArray) (spec_MacOf : ByteArray → ByteArray → Option ByteArray) : EntryIs ctx PP 108 [] [(60, H_spec_l01In spec_l01In), (50, H_spec_l01Var spec_l01Var), (152, H_spec_l06Byte spec_l06Byte), (151, H_spec_MacOf spec_MacOf)] cv16 cv17 at_spec_Mask (fun k a => E_spec_Mask spec_l01In spec_l01Var spec_l06Byte spec_MacOf k a.1 a.2.1 a.2.2) := fun stop a => by kernel_rfl
theorem b_spec_Mask (spec_l01In : Int → Int → Int → Option Bool) (spec_l01Var : Int → Option ByteArray) (spec_l06Byte : Int → Option ByteArray) (spec_MacOf : ByteArray → ByteArray → Option ByteArray) : CutIs ctx PP 108 Tryd.f108 [] [(60, H_spec_l01In spec_l01In), (50, H_spec_l01Var spec_l01Var), (152, H_spec_l06Byte spec_l06Byte), (151, H_spec_MacOf spec_MacOf)] cv17 at_spec_Mask (B_spec_Mask spec_l01In spec_l01Var spec_l06Byte spec_MacOf) := fun stop s => by cases s <;> kernel_rfl
theorem i_spec_Mask : ∀ s s', at_spec_Mask s = at_spec_Mask s' → s = s' := by
  intro s s' h
  cases s with
  | c0 v0 v1 v2 v3 v4 => cases s' with
    | c0 w0 w1 w2 w3 w4 => cases h; rfl
theorem ok_spec_Mask : Tells ctx PP 108 cv16 cv17 (fun a => spec_Mask a.1 a.2.1 a.2.2) := fn_ok (hl_cons h_spec_l01In (hl_cons h_spec_l01Var (hl_cons h_spec_l06Byte (hl_cons h_spec_MacOf hl_nil)))) Tryd.func108 i_spec_Mask (fun _ => rfl) (fun _ _ => rfl) (b_spec_Mask spec_l01In spec_l01Var spec_l06Byte spec_MacOf) (e_spec_Mask spec_l01In spec_l01Var spec_l06Byte spec_MacOf) gas
noncomputable def H_spec_Mask {γ : Type} (F : ByteArray → Int → Int → Option (ByteArray × Bool)) : Hd ctx γ := hdl cv16.dec (fun a => F a.1 a.2.1 a.2.2) cv17.enc
theorem h_spec_Mask {γ : Type} : HdOk (γ := γ) PP 108 (H_spec_Mask spec_Mask) := hd_ok ok_spec_Mask
noncomputable def todo_spec_l18Xor_0 : List Go.Item := [.code (cAt (bodyOf Tryd.f109) [1, 1, 0, 1, 0, 0, 0, 0]), .code (cAt (bodyOf Tryd.f109) [1, 1, 0, 1, 0, 0, 0, 1]), .code (cAt (bodyOf Tryd.f109) [1, 1, 0, 1, 0, 0, 1]), .inLoop (cAt (bodyOf Tryd.f109) [1, 1, 0, 1, 0, 0]), .inBlock 0, .code (cAt (bodyOf Tryd.f109) [1, 1, 1])]
inductive St_spec_l18Xor where
  | c0 (b_1 : ByteArray) (i_6 : Int) (out_5 : (List Int))
noncomputable def at_spec_l18Xor : St_spec_l18Xor → LI
  | .c0 b_1 i_6 out_5 => (todo_spec_l18Xor_0, [(1, [.one (.str b_1)]), (5, [.one (.own 368)]), (6, [.one (.int .i64 i_6)])], [(368, .sl 5 out_5)])
noncomputable def E_spec_l18Xor  (k : St_spec_l18Xor → Option ByteArray) (a_0 : ByteArray) (b_1 : ByteArray) : Option ByteArray :=
  bif (decide (a_0.size ≤ 9223372036854775807)) then
  k (.c0 b_1 (0 : Int) (bytesOf a_0))
  else none
noncomputable def B_spec_l18Xor  (k : St_spec_l18Xor → Option ByteArray) : St_spec_l18Xor → Option ByteArray
  | .c0 b_1 i_6 out_5 =>
    bif (decide (i_6 < (out_5.length : Int))) then
      bif ((decide (0 ≤ i_6)) && (decide (i_6 < (out_5.length : Int)))) then
      bif ((decide (0 ≤ i_6)) && (decide (i_6 < (b_1.size : Int)))) then
      bif ((decide (0 ≤ i_6)) && (decide (i_6 < (out_5.length : Int)))) then
      k (.c0 b_1 (w64 (i_6 + 1)) (out_5.set i_6.toNat (w8 (((BitVec.toNat ((BitVec.ofInt (IntKind.bits IntKind.u8) (out_5.getD i_6.toNat 0)) ^^^ (BitVec.ofInt (IntKind.bits IntKind.u8) (bt b_1 i_6)))) : Nat) : Int))))
      else none
      else none
      else none
    else
      some (ofBytes out_5)
noncomputable def L_spec_l18Xor : Nat → St_spec_l18Xor → Option ByteArray
  | 0, _ => none
  | m + 1, s => B_spec_l18Xor  (L_spec_l18Xor m) s
noncomputable def spec_l18Xor (a_0 : ByteArray) (b_1 : ByteArray) : Option ByteArray := E_spec_l18Xor  (L_spec_l18Xor gas) a_0 b_1
theorem e_spec_l18Xor  : EntryIs ctx PP 109 [] [] cv15 cv1 at_spec_l18Xor (fun k a => E_spec_l18Xor  k a.1 a.2) := fun stop a => by kernel_rfl
theorem b_spec_l18Xor  : CutIs ctx PP 109 Tryd.f109 [] [] cv1 at_spec_l18Xor (B_spec_l18Xor ) := fun stop s => by cases s <;> kernel_rfl
theorem i_spec_l18Xor : ∀ s s', at_spec_l18Xor s = at_spec_l18Xor s' → s = s' := by
  intro s s' h
  cases s with
  | c0 v0 v1 v2 => cases s' with
    | c0 w0 w1 w2 => cases h; rfl
theorem ok_spec_l18Xor : Tells ctx PP 109 cv15 cv1 (fun a => spec_l18Xor a.1 a.2) := fn_ok hl_nil Tryd.func109 i_spec_l18Xor (fun _ => rfl) (fun _ _ => rfl) (b_spec_l18Xor ) (e_spec_l18Xor ) gas
noncomputable def H_spec_l18Xor {γ : Type} (F : ByteArray → ByteArray → Option ByteArray) : Hd ctx γ := hdl cv15.dec (fun a => F a.1 a.2) cv1.enc
theorem h_spec_l18Xor {γ : Type} : HdOk (γ := γ) PP 109 (H_spec_l18Xor spec_l18Xor) := hd_ok ok_spec_l18Xor
noncomputable def E_spec_l18Tag (spec_l01Var : Int → Option ByteArray) (spec_MacOf : ByteArray → ByteArray → Option ByteArray) (key_0 : ByteArray) (num_1 : Int) (s_2 : ByteArray) : Option ByteArray :=
  (spec_l01Var num_1).bind fun r0 =>
  bif (decide (((⟨#[116]⟩ : ByteArray).size + r0.size) ≤ 9223372036854775807)) then
  bif (decide ((((⟨#[116]⟩ : ByteArray) ++ r0).size + s_2.size) ≤ 9223372036854775807)) then
  (spec_MacOf key_0 (((⟨#[116]⟩ : ByteArray) ++ r0) ++ s_2)).bind fun r1 =>
  bif ((decide ((0 : Int) ≤ (16 : Int))) && (decide (16 ≤ (r1.size : Int)))) then
  some (r1.extract 0 (16 : Int).toNat)
  else none
  else none
  else none
noncomputable def spec_l18Tag (key_0 : ByteArray) (num_1 : Int) (s_2 : ByteArray) : Option ByteArray := E_spec_l18Tag spec_l01Var spec_MacOf key_0 num_1 s_2
theorem e_spec_l18Tag (spec_l01Var : Int → Option ByteArray) (spec_MacOf : ByteArray → ByteArray → Option ByteArray) : EntryIs0 ctx PP 110 [] [(50, H_spec_l01Var spec_l01Var), (151, H_spec_MacOf spec_MacOf)] cv18 cv1 (fun a => E_spec_l18Tag spec_l01Var spec_MacOf a.1 a.2.1 a.2.2) := fun a => by kernel_rfl
theorem ok_spec_l18Tag : Tells ctx PP 110 cv18 cv1 (fun a => spec_l18Tag a.1 a.2.1 a.2.2) := fn_ok0 (hl_cons h_spec_l01Var (hl_cons h_spec_MacOf hl_nil)) Tryd.func110 (e_spec_l18Tag spec_l01Var spec_MacOf)
noncomputable def H_spec_l18Tag {γ : Type} (F : ByteArray → Int → ByteArray → Option ByteArray) : Hd ctx γ := hdl cv18.dec (fun a => F a.1 a.2.1 a.2.2) cv1.enc
theorem h_spec_l18Tag {γ : Type} : HdOk (γ := γ) PP 110 (H_spec_l18Tag spec_l18Tag) := hd_ok ok_spec_l18Tag
noncomputable def E_spec_LockText (spec_Mask : ByteArray → Int → Int → Option (ByteArray × Bool)) (spec_l18Xor : ByteArray → ByteArray → Option ByteArray) (spec_l18Tag : ByteArray → Int → ByteArray → Option ByteArray) (key_0 : ByteArray) (num_1 : Int) (s_2 : ByteArray) : Option (ByteArray × Bool) :=
  (spec_Mask key_0 num_1 (s_2.size : Int)).bind fun r0 =>
  bif (!r0.2) then
    some ((⟨#[]⟩ : ByteArray), false)
  else
    (spec_l18Xor s_2 r0.1).bind fun r1 =>
    (spec_l18Tag key_0 num_1 r1).bind fun r2 =>
    bif (decide ((r1.size + r2.size) ≤ 9223372036854775807)) then
    some ((r1 ++ r2), true)
    else none
noncomputable def spec_LockText (key_0 : ByteArray) (num_1 : Int) (s_2 : ByteArray) : Option (ByteArray × Bool) := E_spec_LockText spec_Mask spec_l18Xor spec_l18Tag key_0 num_1 s_2
theorem e_spec_LockText (spec_Mask : ByteArray → Int → Int → Option (ByteArray × Bool)) (spec_l18Xor : ByteArray → ByteArray → Option ByteArray) (spec_l18Tag : ByteArray → Int → ByteArray → Option ByteArray) : EntryIs0 ctx PP 51 [] [(108, H_spec_Mask spec_Mask), (109, H_spec_l18Xor spec_l18Xor), (110, H_spec_l18Tag spec_l18Tag)] cv18 cv17 (fun a => E_spec_LockText spec_Mask spec_l18Xor spec_l18Tag a.1 a.2.1 a.2.2) := fun a => by kernel_rfl
theorem ok_spec_LockText : Tells ctx PP 51 cv18 cv17 (fun a => spec_LockText a.1 a.2.1 a.2.2) := fn_ok0 (hl_cons h_spec_Mask (hl_cons h_spec_l18Xor (hl_cons h_spec_l18Tag hl_nil))) Tryd.func51 (e_spec_LockText spec_Mask spec_l18Xor spec_l18Tag)
noncomputable def H_spec_LockText {γ : Type} (F : ByteArray → Int → ByteArray → Option (ByteArray × Bool)) : Hd ctx γ := hdl cv18.dec (fun a => F a.1 a.2.1 a.2.2) cv17.enc
theorem h_spec_LockText {γ : Type} : HdOk (γ := γ) PP 51 (H_spec_LockText spec_LockText) := hd_ok ok_spec_LockText
noncomputable def todo_spec_SumMore_0 : List Go.Item := [.code (cAt (bodyOf Tryd.f157) [1, 0, 1, 0, 0, 0, 0]), .code (cAt (bodyOf Tryd.f157) [1, 0, 1, 0, 0, 0, 1]), .code (cAt (bodyOf Tryd.f157) [1, 0, 1, 0, 0, 1]), .inLoop (cAt (bodyOf Tryd.f157) [1, 0, 1, 0, 0]), .inBlock 0, .code (cAt (bodyOf Tryd.f157) [1, 1])]
noncomputable def todo_spec_SumMore_1 : List Go.Item := [.code (cAt (bodyOf Tryd.f157) [1, 0, 1, 0, 0, 1, 0, 0, 1, 1, 0, 0, 0, 0]), .code (cAt (bodyOf Tryd.f157) [1, 0, 1, 0, 0, 1, 0, 0, 1, 1, 0, 0, 0, 1]), .code (cAt (bodyOf Tryd.f157) [1, 0, 1, 0, 0, 1, 0, 0, 1, 1, 0, 0, 1]), .inLoop (cAt (bodyOf Tryd.f157) [1, 0, 1, 0, 0, 1, 0, 0, 1, 1, 0, 0]), .inBlock 2, .inBlock 1, .code (cAt (bodyOf Tryd.f157) [1, 0, 1, 0, 0, 1, 1]), .inLoop (cAt (bodyOf Tryd.f157) [1, 0, 1, 0, 0]), .inBlock 0, .code (cAt (bodyOf Tryd.f157) [1, 1])]
inductive St_spec_SumMore where
  | c0 (sum_0 : Int) (text_1 : ByteArray) (i_5 : Int)
  | c1 (sum_0 : Int) (text_1 : ByteArray) (i_5 : Int) (k_6 : Int)
noncomputable def at_spec_SumMore : St_spec_SumMore → LI
  | .c0 sum_0 text_1 i_5 => (todo_spec_SumMore_0, [(0, [.one (.int .u32 sum_0)]), (1, [.one (.str text_1)]), (5, [.one (.int .i64 i_5)])], [])
  | .c1 sum_0 text_1 i_5 k_6 => (todo_spec_SumMore_1, [(0, [.one (.int .u32 sum_0)]), (1, [.one (.str text_1)]), (5, [.one (.int .i64 i_5)]), (6, [.one (.int .i64 k_6)])], [])
noncomputable def E_spec_SumMore  (k : St_spec_SumMore → Option Int) (sum_0 : Int) (text_1 : ByteArray) : Option Int :=
  k (.c0 sum_0 text_1 (0 : Int))
noncomputable def B_spec_SumMore  (k : St_spec_SumMore → Option Int) : St_spec_SumMore → Option Int
  | .c0 sum_0 text_1 i_5 =>
    bif (decide (i_5 < (text_1.size : Int))) then
      bif ((decide (0 ≤ i_5)) && (decide (i_5 < (text_1.size : Int)))) then
      k (.c1 (w32 (((BitVec.toNat ((BitVec.ofInt (IntKind.bits IntKind.u32) sum_0) ^^^ (BitVec.ofInt (IntKind.bits IntKind.u32) (w32 (bt text_1 i_5))))) : Nat) : Int)) text_1 i_5 (0 : Int))
      else none
    else
      some sum_0
  | .c1 sum_0 text_1 i_5 k_6 =>
    bif (decide (k_6 < 8)) then
      bif ((sum_0.tmod 2) == 1) then
        k (.c1 (w32 (((BitVec.toNat ((BitVec.ofInt (IntKind.bits IntKind.u32) (w32 (sum_0.tdiv 2))) ^^^ (BitVec.ofInt (IntKind.bits IntKind.u32) (3558460437 : Int)))) : Nat) : Int)) text_1 i_5 (w64 (k_6 + 1)))
      else
        k (.c1 (w32 (sum_0.tdiv 2)) text_1 i_5 (w64 (k_6 + 1)))
    else
      k (.c0 sum_0 text_1 (w64 (i_5 + 1)))
noncomputable def L_spec_SumMore : Nat → St_spec_SumMore → Option Int
  | 0, _ => none
  | m + 1, s => B_spec_SumMore  (L_spec_SumMore m) s
noncomputable def spec_SumMore (sum_0 : Int) (text_1 : ByteArray) : Option Int := E_spec_SumMore  (L_spec_SumMore gas) sum_0 text_1
theorem e_spec_SumMore  : EntryIs ctx PP 157 [] [] cv29 cv9 at_spec_SumMore (fun k a => E_spec_SumMore  k a.1 a.2) := fun stop a => by kernel_rfl
theorem b_spec_SumMore  : CutIs ctx PP 157 Tryd.f157 [] [] cv9 at_spec_SumMore (B_spec_SumMore ) := fun stop s => by cases s <;> kernel_rfl
theorem i_spec_SumMore : ∀ s s', at_spec_SumMore s = at_spec_SumMore s' → s = s' := by
  intro s s' h
  cases s with
  | c0 v0 v1 v2 => cases s' with
    | c0 w0 w1 w2 => cases h; rfl
    | c1 w0 w1 w2 w3 => exact (region_ne 2 6 h (by kernel_rfl) (by kernel_rfl) rfl).elim
  | c1 v0 v1 v2 v3 => cases s' with
    | c0 w0 w1 w2 => exact (region_ne 6 2 h (by kernel_rfl) (by kernel_rfl) rfl).elim
    | c1 w0 w1 w2 w3 => cases h; rfl
theorem ok_spec_SumMore : Tells ctx PP 157 cv29 cv9 (fun a => spec_SumMore a.1 a.2) := fn_ok hl_nil Tryd.func157 i_spec_SumMore (fun _ => rfl) (fun _ _ => rfl) (b_spec_SumMore ) (e_spec_SumMore ) gas
noncomputable def H_spec_SumMore {γ : Type} (F : Int → ByteArray → Option Int) : Hd ctx γ := hdl cv29.dec (fun a => F a.1 a.2) cv9.enc
theorem h_spec_SumMore {γ : Type} : HdOk (γ := γ) PP 157 (H_spec_SumMore spec_SumMore) := hd_ok ok_spec_SumMore
noncomputable def E_spec_SumOf (spec_SumMore : Int → ByteArray → Option Int) (text_0 : ByteArray) : Option Int :=
  (spec_SumMore (4294967295 : Int) text_0).bind fun r0 =>
  some r0
noncomputable def spec_SumOf (text_0 : ByteArray) : Option Int := E_spec_SumOf spec_SumMore text_0
theorem e_spec_SumOf (spec_SumMore : Int → ByteArray → Option Int) : EntryIs0 ctx PP 120 [] [(157, H_spec_SumMore spec_SumMore)] cv1 cv9 (fun a => E_spec_SumOf spec_SumMore a) := fun a => by kernel_rfl
theorem ok_spec_SumOf : Tells ctx PP 120 cv1 cv9 (fun a => spec_SumOf a) := fn_ok0 (hl_cons h_spec_SumMore hl_nil) Tryd.func120 (e_spec_SumOf spec_SumMore)
noncomputable def H_spec_SumOf {γ : Type} (F : ByteArray → Option Int) : Hd ctx γ := hdl cv1.dec (fun a => F a) cv9.enc
theorem h_spec_SumOf {γ : Type} : HdOk (γ := γ) PP 120 (H_spec_SumOf spec_SumOf) := hd_ok ok_spec_SumOf
noncomputable def E_spec_l02Four  (x_0 : Int) : Option ByteArray :=
  some (ofBytes [(w8 (Int.fdiv x_0 (2 ^ (Min.min (24 : Int).toNat (IntKind.bits IntKind.u32))))), (w8 (Int.fdiv x_0 (2 ^ (Min.min (16 : Int).toNat (IntKind.bits IntKind.u32))))), (w8 (Int.fdiv x_0 (2 ^ (Min.min (8 : Int).toNat (IntKind.bits IntKind.u32))))), (w8 x_0)])
noncomputable def spec_l02Four (x_0 : Int) : Option ByteArray := E_spec_l02Four  x_0
theorem e_spec_l02Four  : EntryIs0 ctx PP 119 [] [] cv9 cv1 (fun a => E_spec_l02Four  a) := fun a => by kernel_rfl
theorem ok_spec_l02Four : Tells ctx PP 119 cv9 cv1 (fun a => spec_l02Four a) := fn_ok0 hl_nil Tryd.func119 (e_spec_l02Four )
noncomputable def H_spec_l02Four {γ : Type} (F : Int → Option ByteArray) : Hd ctx γ := hdl cv9.dec (fun a => F a) cv1.enc
theorem h_spec_l02Four {γ : Type} : HdOk (γ := γ) PP 119 (H_spec_l02Four spec_l02Four) := hd_ok ok_spec_l02Four
noncomputable def E_spec_Frame (spec_l01In : Int → Int → Int → Option Bool) (spec_l01Var : Int → Option ByteArray) (spec_SumOf : ByteArray → Option Int) (spec_l02Four : Int → Option ByteArray) (text_0 : ByteArray) : Option (ByteArray × Bool) :=
  (spec_l01In (text_0.size : Int) (1 : Int) (9000 : Int)).bind fun r0 =>
  bif (!r0) then
    some ((⟨#[]⟩ : ByteArray), false)
  else
    (spec_l01Var (text_0.size : Int)).bind fun r1 =>
    (spec_SumOf text_0).bind fun r2 =>
    (spec_l02Four r2).bind fun r3 =>
    bif (decide ((r1.size + r3.size) ≤ 9223372036854775807)) then
    bif (decide (((r1 ++ r3).size + text_0.size) ≤ 9223372036854775807)) then
    some (((r1 ++ r3) ++ text_0), true)
    else none
    else none
noncomputable def spec_Frame (text_0 : ByteArray) : Option (ByteArray × Bool) := E_spec_Frame spec_l01In spec_l01Var spec_SumOf spec_l02Four text_0
theorem e_spec_Frame (spec_l01In : Int → Int → Int → Option Bool) (spec_l01Var : Int → Option ByteArray) (spec_SumOf : ByteArray → Option Int) (spec_l02Four : Int → Option ByteArray) : EntryIs0 ctx PP 61 [] [(60, H_spec_l01In spec_l01In), (50, H_spec_l01Var spec_l01Var), (120, H_spec_SumOf spec_SumOf), (119, H_spec_l02Four spec_l02Four)] cv1 cv17 (fun a => E_spec_Frame spec_l01In spec_l01Var spec_SumOf spec_l02Four a) := fun a => by kernel_rfl
theorem ok_spec_Frame : Tells ctx PP 61 cv1 cv17 (fun a => spec_Frame a) := fn_ok0 (hl_cons h_spec_l01In (hl_cons h_spec_l01Var (hl_cons h_spec_SumOf (hl_cons h_spec_l02Four hl_nil)))) Tryd.func61 (e_spec_Frame spec_l01In spec_l01Var spec_SumOf spec_l02Four)
noncomputable def H_spec_Frame {γ : Type} (F : ByteArray → Option (ByteArray × Bool)) : Hd ctx γ := hdl cv1.dec (fun a => F a) cv17.enc
theorem h_spec_Frame {γ : Type} : HdOk (γ := γ) PP 61 (H_spec_Frame spec_Frame) := hd_ok ok_spec_Frame
noncomputable def E_spec_BookActs (spec_RecText : SRec → Option (ByteArray × Bool)) (spec_l01In : Int → Int → Int → Option Bool) (spec_LockText : ByteArray → Int → ByteArray → Option (ByteArray × Bool)) (spec_Frame : ByteArray → Option (ByteArray × Bool)) (key_0 : ByteArray) (count_1 : Int) (r_2 : SRec) : Option ((List SAct) × Bool) :=
  (spec_RecText r_2).bind fun r0 =>
  bif (!r0.2) then
    some ([], false)
  else
    (spec_l01In count_1 (0 : Int) (10000 : Int)).bind fun r1 =>
    bif (!r1) then
      some ([], false)
    else
      (spec_LockText key_0 (w64 (count_1 + 1)) r0.1).bind fun r2 =>
      (spec_Frame r2.1).bind fun r3 =>
      some ([(⟨(1 : Int), (⟨#[98, 111, 111, 107]⟩ : ByteArray), r3.1, (⟨#[]⟩ : ByteArray)⟩ : SAct), (⟨(2 : Int), (⟨#[98, 111, 111, 107]⟩ : ByteArray), (⟨#[]⟩ : ByteArray), (⟨#[]⟩ : ByteArray)⟩ : SAct)], true)
noncomputable def spec_BookActs (key_0 : ByteArray) (count_1 : Int) (r_2 : SRec) : Option ((List SAct) × Bool) := E_spec_BookActs spec_RecText spec_l01In spec_LockText spec_Frame key_0 count_1 r_2
theorem e_spec_BookActs (spec_RecText : SRec → Option (ByteArray × Bool)) (spec_l01In : Int → Int → Int → Option Bool) (spec_LockText : ByteArray → Int → ByteArray → Option (ByteArray × Bool)) (spec_Frame : ByteArray → Option (ByteArray × Bool)) : EntryIs0 ctx PP 17 [] [(59, H_spec_RecText spec_RecText), (60, H_spec_l01In spec_l01In), (51, H_spec_LockText spec_LockText), (61, H_spec_Frame spec_Frame)] cv30 cv31 (fun a => E_spec_BookActs spec_RecText spec_l01In spec_LockText spec_Frame a.1 a.2.1 a.2.2) := fun a => by kernel_rfl
theorem ok_spec_BookActs : Tells ctx PP 17 cv30 cv31 (fun a => spec_BookActs a.1 a.2.1 a.2.2) := fn_ok0 (hl_cons h_spec_RecText (hl_cons h_spec_l01In (hl_cons h_spec_LockText (hl_cons h_spec_Frame hl_nil)))) Tryd.func17 (e_spec_BookActs spec_RecText spec_l01In spec_LockText spec_Frame)
noncomputable def H_spec_BookActs {γ : Type} (F : ByteArray → Int → SRec → Option ((List SAct) × Bool)) : Hd ctx γ := hdl cv30.dec (fun a => F a.1 a.2.1 a.2.2) cv31.enc
theorem h_spec_BookActs {γ : Type} : HdOk (γ := γ) PP 17 (H_spec_BookActs spec_BookActs) := hd_ok ok_spec_BookActs
noncomputable def todo_impl_varText_0 : List Go.Item := [.code (cAt (bodyOf Tryd.f114) [1, 1, 0, 0, 0, 0, 0]), .code (cAt (bodyOf Tryd.f114) [1, 1, 0, 0, 0, 0, 1]), .code (cAt (bodyOf Tryd.f114) [1, 1, 0, 0, 0, 1]), .inLoop (cAt (bodyOf Tryd.f114) [1, 1, 0, 0, 0]), .inBlock 0, .code (cAt (bodyOf Tryd.f114) [1, 1, 1])]
inductive St_impl_varText where
  | c0 (n_0 : Int) (out_3 : (List Int))
noncomputable def at_impl_varText : St_impl_varText → LI
  | .c0 n_0 out_3 => (todo_impl_varText_0, [(0, [.one (.int .i64 n_0)]), (3, [.one (.own 240)])], [(240, .sl 5 out_3)])
noncomputable def E_impl_varText  (k : St_impl_varText → Option ByteArray) (n_0 : Int) : Option ByteArray :=
  k (.c0 n_0 [])
noncomputable def B_impl_varText  (k : St_impl_varText → Option ByteArray) : St_impl_varText → Option ByteArray
  | .c0 n_0 out_3 =>
    bif (decide (n_0 > 127)) then
      bif (decide (((out_3.length + 1) * 1) ≤ 140737488355328)) then
      k (.c0 (w64 (n_0.tdiv 128)) (out_3 ++ [(w8 (w64 (128 + (n_0.tmod 128))))]))
      else none
    else
      bif (decide (((out_3.length + 1) * 1) ≤ 140737488355328)) then
      some (ofBytes (out_3 ++ [(w8 n_0)]))
      else none
noncomputable def L_impl_varText : Nat → St_impl_varText → Option ByteArray
  | 0, _ => none
  | m + 1, s => B_impl_varText  (L_impl_varText m) s
noncomputable def impl_varText (n_0 : Int) : Option ByteArray := E_impl_varText  (L_impl_varText gas) n_0
theorem e_impl_varText  : EntryIs ctx PP 114 [] [] cv0 cv1 at_impl_varText (fun k a => E_impl_varText  k a) := fun stop a => by kernel_rfl
theorem b_impl_varText  : CutIs ctx PP 114 Tryd.f114 [] [] cv1 at_impl_varText (B_impl_varText ) := fun stop s => by cases s <;> kernel_rfl
theorem i_impl_varText : ∀ s s', at_impl_varText s = at_impl_varText s' → s = s' := by
  intro s s' h
  cases s with
  | c0 v0 v1 => cases s' with
    | c0 w0 w1 => cases h; rfl
theorem ok_impl_varText : Tells ctx PP 114 cv0 cv1 (fun a => impl_varText a) := fn_ok hl_nil Tryd.func114 i_impl_varText (fun _ => rfl) (fun _ _ => rfl) (b_impl_varText ) (e_impl_varText ) gas
noncomputable def H_impl_varText {γ : Type} (F : Int → Option ByteArray) : Hd ctx γ := hdl cv0.dec (fun a => F a) cv1.enc
theorem h_impl_varText {γ : Type} : HdOk (γ := γ) PP 114 (H_impl_varText impl_varText) := hd_ok ok_impl_varText
noncomputable def E_impl_in  (n_0 : Int) (low_1 : Int) (high_2 : Int) : Option Bool :=
  bif (decide (n_0 ≥ low_1)) then
    some (decide (n_0 ≤ high_2))
  else
    some false
noncomputable def impl_in (n_0 : Int) (low_1 : Int) (high_2 : Int) : Option Bool := E_impl_in  n_0 low_1 high_2
theorem e_impl_in  : EntryIs0 ctx PP 64 [] [] cv2 cv3 (fun a => E_impl_in  a.1 a.2.1 a.2.2) := fun a => by kernel_rfl
theorem ok_impl_in : Tells ctx PP 64 cv2 cv3 (fun a => impl_in a.1 a.2.1 a.2.2) := fn_ok0 hl_nil Tryd.func64 (e_impl_in )
noncomputable def H_impl_in {γ : Type} (F : Int → Int → Int → Option Bool) : Hd ctx γ := hdl cv2.dec (fun a => F a.1 a.2.1 a.2.2) cv3.enc
theorem h_impl_in {γ : Type} : HdOk (γ := γ) PP 64 (H_impl_in impl_in) := hd_ok ok_impl_in
noncomputable def E_impl_ThingOk (impl_in : Int → Int → Int → Option Bool) (x_0 : SThing) : Option Bool :=
  (impl_in x_0.fId (1 : Int) (1000 : Int)).bind fun r0 =>
  bif (!r0) then
    some false
  else
    (impl_in x_0.fNext (0 : Int) (16 : Int)).bind fun r1 =>
    bif (!r1) then
      some false
    else
      bif (x_0.fKind != 2) then
        bif (x_0.fNext != 0) then
          some false
        else
          bif x_0.fSigns then
            some false
          else
            bif (x_0.fKind != 1) then
              bif x_0.fWraps then
                some false
              else
                bif (x_0.fKind == 1) then
                  bif (x_0.fKind == 1) then
                    some ((x_0.fValue.size : Int) == 32)
                  else
                    bif (x_0.fKind == 3) then
                      some (decide ((x_0.fValue.size : Int) ≤ 100))
                    else
                      some false
                else
                  bif (x_0.fKind == 2) then
                    some ((x_0.fValue.size : Int) == 32)
                  else
                    bif (x_0.fKind == 3) then
                      some (decide ((x_0.fValue.size : Int) ≤ 100))
                    else
                      some false
            else
              bif (x_0.fKind == 1) then
                bif (x_0.fKind == 1) then
                  some ((x_0.fValue.size : Int) == 32)
                else
                  bif (x_0.fKind == 3) then
                    some (decide ((x_0.fValue.size : Int) ≤ 100))
                  else
                    some false
              else
                bif (x_0.fKind == 2) then
                  some ((x_0.fValue.size : Int) == 32)
                else
                  bif (x_0.fKind == 3) then
                    some (decide ((x_0.fValue.size : Int) ≤ 100))
                  else
                    some false
      else
        bif (x_0.fKind != 1) then
          bif x_0.fWraps then
            some false
          else
            bif (x_0.fKind == 1) then
              bif (x_0.fKind == 1) then
                some ((x_0.fValue.size : Int) == 32)
              else
                bif (x_0.fKind == 3) then
                  some (decide ((x_0.fValue.size : Int) ≤ 100))
                else
                  some false
            else
              bif (x_0.fKind == 2) then
                some ((x_0.fValue.size : Int) == 32)
              else
                bif (x_0.fKind == 3) then
                  some (decide ((x_0.fValue.size : Int) ≤ 100))
                else
                  some false
        else
          bif (x_0.fKind == 1) then
            bif (x_0.fKind == 1) then
              some ((x_0.fValue.size : Int) == 32)
            else
              bif (x_0.fKind == 3) then
                some (decide ((x_0.fValue.size : Int) ≤ 100))
              else
                some false
          else
            bif (x_0.fKind == 2) then
              some ((x_0.fValue.size : Int) == 32)
            else
              bif (x_0.fKind == 3) then
                some (decide ((x_0.fValue.size : Int) ≤ 100))
              else
                some false
noncomputable def impl_ThingOk (x_0 : SThing) : Option Bool := E_impl_ThingOk impl_in x_0
theorem e_impl_ThingOk (impl_in : Int → Int → Int → Option Bool) : EntryIs0 ctx PP 131 [] [(64, H_impl_in impl_in)] cv26 cv3 (fun a => E_impl_ThingOk impl_in a) := fun a => by kernel_rfl
theorem ok_impl_ThingOk : Tells ctx PP 131 cv26 cv3 (fun a => impl_ThingOk a) := fn_ok0 (hl_cons h_impl_in hl_nil) Tryd.func131 (e_impl_ThingOk impl_in)
noncomputable def H_impl_ThingOk {γ : Type} (F : SThing → Option Bool) : Hd ctx γ := hdl cv26.dec (fun a => F a) cv3.enc
theorem h_impl_ThingOk {γ : Type} : HdOk (γ := γ) PP 131 (H_impl_ThingOk impl_ThingOk) := hd_ok ok_impl_ThingOk
noncomputable def E_impl_oneByte  (n_0 : Int) : Option ByteArray :=
  some (ofBytes [(w8 n_0)])
noncomputable def impl_oneByte (n_0 : Int) : Option ByteArray := E_impl_oneByte  n_0
theorem e_impl_oneByte  : EntryIs0 ctx PP 122 [] [] cv0 cv1 (fun a => E_impl_oneByte  a) := fun a => by kernel_rfl
theorem ok_impl_oneByte : Tells ctx PP 122 cv0 cv1 (fun a => impl_oneByte a) := fn_ok0 hl_nil Tryd.func122 (e_impl_oneByte )
noncomputable def H_impl_oneByte {γ : Type} (F : Int → Option ByteArray) : Hd ctx γ := hdl cv0.dec (fun a => F a) cv1.enc
theorem h_impl_oneByte {γ : Type} : HdOk (γ := γ) PP 122 (H_impl_oneByte impl_oneByte) := hd_ok ok_impl_oneByte
noncomputable def todo_impl_flags_0 : List Go.Item := [.code (cAt (bodyOf Tryd.f158) [1, 1, 0, 1, 0, 0, 0]), .code (cAt (bodyOf Tryd.f158) [1, 1, 0, 1, 0, 0, 1]), .inLoop (cAt (bodyOf Tryd.f158) [1, 1, 0, 1, 0, 0]), .inBlock 0, .code (cAt (bodyOf Tryd.f158) [1, 1, 1])]
inductive St_impl_flags where
  | c0 (n_3 : Int) (v_15 : Int) (v_16 : Int) (v_14 : (List Bool))
noncomputable def at_impl_flags : St_impl_flags → LI
  | .c0 n_3 v_15 v_16 v_14 => (todo_impl_flags_0, [(3, [.one (.int .i64 n_3)]), (14, [.one (.own 944)]), (15, [.one (.int .i64 v_15)]), (16, [.one (.int .i64 v_16)])], [(944, .sl 4 v_14)])
noncomputable def E_impl_flags  (k : St_impl_flags → Option Int) (x_0 : SThing) : Option Int :=
  k (.c0 (0 : Int) ((4 : Nat) : Int) (0 : Int) [x_0.fHidden, x_0.fFixed, x_0.fSigns, x_0.fWraps])
noncomputable def B_impl_flags  (k : St_impl_flags → Option Int) : St_impl_flags → Option Int
  | .c0 n_3 v_15 v_16 v_14 =>
    bif (decide (v_16 < v_15)) then
      bif ((decide (0 ≤ v_16)) && (decide (v_16 < (v_14.length : Int)))) then
      bif (v_14.getD v_16.toNat false) then
        bif (decide (0 ≤ v_16)) then
        k (.c0 (w64 (((BitVec.toNat ((BitVec.ofInt (IntKind.bits IntKind.i64) n_3) ||| (BitVec.ofInt (IntKind.bits IntKind.i64) (w64 (1 * (2 ^ (Min.min v_16.toNat (IntKind.bits IntKind.i64)))))))) : Nat) : Int)) v_15 (w64 (v_16 + 1)) v_14)
        else none
      else
        k (.c0 n_3 v_15 (w64 (v_16 + 1)) v_14)
      else none
    else
      some n_3
noncomputable def L_impl_flags : Nat → St_impl_flags → Option Int
  | 0, _ => none
  | m + 1, s => B_impl_flags  (L_impl_flags m) s
noncomputable def impl_flags (x_0 : SThing) : Option Int := E_impl_flags  (L_impl_flags gas) x_0
theorem e_impl_flags  : EntryIs ctx PP 158 [] [] cv26 cv0 at_impl_flags (fun k a => E_impl_flags  k a) := fun stop a => by kernel_rfl
theorem b_impl_flags  : CutIs ctx PP 158 Tryd.f158 [] [] cv0 at_impl_flags (B_impl_flags ) := fun stop s => by cases s <;> kernel_rfl
theorem i_impl_flags : ∀ s s', at_impl_flags s = at_impl_flags s' → s = s' := by
  intro s s' h
  cases s with
  | c0 v0 v1 v2 v3 => cases s' with
    | c0 w0 w1 w2 w3 => cases h; rfl
theorem ok_impl_flags : Tells ctx PP 158 cv26 cv0 (fun a => impl_flags a) := fn_ok hl_nil Tryd.func158 i_impl_flags (fun _ => rfl) (fun _ _ => rfl) (b_impl_flags ) (e_impl_flags ) gas
noncomputable def H_impl_flags {γ : Type} (F : SThing → Option Int) : Hd ctx γ := hdl cv26.dec (fun a => F a) cv0.enc
theorem h_impl_flags {γ : Type} : HdOk (γ := γ) PP 158 (H_impl_flags impl_flags) := hd_ok ok_impl_flags
noncomputable def E_impl_shortText (impl_varText : Int → Option ByteArray) (s_0 : ByteArray) : Option ByteArray :=
  (impl_varText (s_0.size : Int)).bind fun r0 =>
  bif (decide ((r0.size + s_0.size) ≤ 9223372036854775807)) then
  some (r0 ++ s_0)
  else none
noncomputable def impl_shortText (s_0 : ByteArray) : Option ByteArray := E_impl_shortText impl_varText s_0
theorem e_impl_shortText (impl_varText : Int → Option ByteArray) : EntryIs0 ctx PP 159 [] [(114, H_impl_varText impl_varText)] cv1 cv1 (fun a => E_impl_shortText impl_varText a) := fun a => by kernel_rfl
theorem ok_impl_shortText : Tells ctx PP 159 cv1 cv1 (fun a => impl_shortText a) := fn_ok0 (hl_cons h_impl_varText hl_nil) Tryd.func159 (e_impl_shortText impl_varText)
noncomputable def H_impl_shortText {γ : Type} (F : ByteArray → Option ByteArray) : Hd ctx γ := hdl cv1.dec (fun a => F a) cv1.enc
theorem h_impl_shortText {γ : Type} : HdOk (γ := γ) PP 159 (H_impl_shortText impl_shortText) := hd_ok ok_impl_shortText
noncomputable def E_impl_ThingText (impl_ThingOk : SThing → Option Bool) (impl_varText : Int → Option ByteArray) (impl_oneByte : Int → Option ByteArray) (impl_flags : SThing → Option Int) (impl_shortText : ByteArray → Option ByteArray) (x_0 : SThing) : Option (ByteArray × Bool) :=
  (impl_ThingOk x_0).bind fun r0 =>
  bif (!r0) then
    some ((⟨#[]⟩ : ByteArray), false)
  else
    (impl_varText x_0.fId).bind fun r1 =>
    (impl_oneByte x_0.fKind).bind fun r2 =>
    bif (decide ((r1.size + r2.size) ≤ 9223372036854775807)) then
    (impl_flags x_0).bind fun r3 =>
    (impl_oneByte r3).bind fun r4 =>
    bif (decide (((r1 ++ r2).size + r4.size) ≤ 9223372036854775807)) then
    (impl_shortText x_0.fValue).bind fun r5 =>
    bif (decide ((((r1 ++ r2) ++ r4).size + r5.size) ≤ 9223372036854775807)) then
    (impl_varText x_0.fNext).bind fun r6 =>
    bif (decide (((((r1 ++ r2) ++ r4) ++ r5).size + r6.size) ≤ 9223372036854775807)) then
    some (((((r1 ++ r2) ++ r4) ++ r5) ++ r6), true)
    else none
    else none
    else none
    else none
noncomputable def impl_ThingText (x_0 : SThing) : Option (ByteArray × Bool) := E_impl_ThingText impl_ThingOk impl_varText impl_oneByte impl_flags impl_shortText x_0
theorem e_impl_ThingText (impl_ThingOk : SThing → Option Bool) (impl_varText : Int → Option ByteArray) (impl_oneByte : Int → Option ByteArray) (impl_flags : SThing → Option Int) (impl_shortText : ByteArray → Option ByteArray) : EntryIs0 ctx PP 121 [] [(131, H_impl_ThingOk impl_ThingOk), (114, H_impl_varText impl_varText), (122, H_impl_oneByte impl_oneByte), (158, H_impl_flags impl_flags), (159, H_impl_shortText impl_shortText)] cv26 cv17 (fun a => E_impl_ThingText impl_ThingOk impl_varText impl_oneByte impl_flags impl_shortText a) := fun a => by kernel_rfl
theorem ok_impl_ThingText : Tells ctx PP 121 cv26 cv17 (fun a => impl_ThingText a) := fn_ok0 (hl_cons h_impl_ThingOk (hl_cons h_impl_varText (hl_cons h_impl_oneByte (hl_cons h_impl_flags (hl_cons h_impl_shortText hl_nil))))) Tryd.func121 (e_impl_ThingText impl_ThingOk impl_varText impl_oneByte impl_flags impl_shortText)
noncomputable def H_impl_ThingText {γ : Type} (F : SThing → Option (ByteArray × Bool)) : Hd ctx γ := hdl cv26.dec (fun a => F a) cv17.enc
theorem h_impl_ThingText {γ : Type} : HdOk (γ := γ) PP 121 (H_impl_ThingText impl_ThingText) := hd_ok ok_impl_ThingText
noncomputable def E_impl_RecText (impl_varText : Int → Option ByteArray) (impl_in : Int → Int → Int → Option Bool) (impl_ThingText : SThing → Option (ByteArray × Bool)) (impl_oneByte : Int → Option ByteArray) (r_0 : SRec) : Option (ByteArray × Bool) :=
  bif (r_0.fKind == 1) then
    bif (!((r_0.fText.size : Int) == 32)) then
      some ((⟨#[]⟩ : ByteArray), false)
    else
      bif (!((r_0.fKind == r_0.fKind) && (((ByteArray.toList r_0.fText) == (ByteArray.toList r_0.fText)) && ((r_0.fNum == 0) && (((r_0.fThing.fId == 0) && ((r_0.fThing.fKind == 0) && ((r_0.fThing.fHidden == false) && ((r_0.fThing.fFixed == false) && ((r_0.fThing.fSigns == false) && ((r_0.fThing.fWraps == false) && (((ByteArray.toList r_0.fThing.fValue) == (ByteArray.toList (⟨#[]⟩ : ByteArray))) && ((r_0.fThing.fNext == 0) && true)))))))) && true))))) then
        some ((⟨#[]⟩ : ByteArray), false)
      else
        (impl_oneByte r_0.fKind).bind fun r0 =>
        bif (decide ((r0.size + r_0.fText.size) ≤ 9223372036854775807)) then
        some ((r0 ++ r_0.fText), true)
        else none
  else
    bif (r_0.fKind == 2) then
      (impl_varText r_0.fNum).bind fun r1 =>
      (impl_in r_0.fNum (0 : Int) (3 : Int)).bind fun r2 =>
      bif (!r2) then
        some ((⟨#[]⟩ : ByteArray), false)
      else
        bif (!((r_0.fKind == r_0.fKind) && (((ByteArray.toList r_0.fText) == (ByteArray.toList (⟨#[]⟩ : ByteArray))) && ((r_0.fNum == r_0.fNum) && (((r_0.fThing.fId == 0) && ((r_0.fThing.fKind == 0) && ((r_0.fThing.fHidden == false) && ((r_0.fThing.fFixed == false) && ((r_0.fThing.fSigns == false) && ((r_0.fThing.fWraps == false) && (((ByteArray.toList r_0.fThing.fValue) == (ByteArray.toList (⟨#[]⟩ : ByteArray))) && ((r_0.fThing.fNext == 0) && true)))))))) && true))))) then
          some ((⟨#[]⟩ : ByteArray), false)
        else
          (impl_oneByte r_0.fKind).bind fun r3 =>
          bif (decide ((r3.size + r1.size) ≤ 9223372036854775807)) then
          some ((r3 ++ r1), true)
          else none
    else
      bif (r_0.fKind == 3) then
        (impl_ThingText r_0.fThing).bind fun r4 =>
        bif (!r4.2) then
          some ((⟨#[]⟩ : ByteArray), false)
        else
          bif (!((r_0.fKind == r_0.fKind) && (((ByteArray.toList r_0.fText) == (ByteArray.toList (⟨#[]⟩ : ByteArray))) && ((r_0.fNum == 0) && (((r_0.fThing.fId == r_0.fThing.fId) && ((r_0.fThing.fKind == r_0.fThing.fKind) && ((r_0.fThing.fHidden == r_0.fThing.fHidden) && ((r_0.fThing.fFixed == r_0.fThing.fFixed) && ((r_0.fThing.fSigns == r_0.fThing.fSigns) && ((r_0.fThing.fWraps == r_0.fThing.fWraps) && (((ByteArray.toList r_0.fThing.fValue) == (ByteArray.toList r_0.fThing.fValue)) && ((r_0.fThing.fNext == r_0.fThing.fNext) && true)))))))) && true))))) then
            some ((⟨#[]⟩ : ByteArray), false)
          else
            (impl_oneByte r_0.fKind).bind fun r5 =>
            bif (decide ((r5.size + r4.1.size) ≤ 9223372036854775807)) then
            some ((r5 ++ r4.1), true)
            else none
      else
        bif (r_0.fKind == 4) then
          (impl_varText r_0.fNum).bind fun r6 =>
          (impl_in r_0.fNum (1 : Int) (1000 : Int)).bind fun r7 =>
          bif (!r7) then
            some ((⟨#[]⟩ : ByteArray), false)
          else
            bif (!((r_0.fKind == r_0.fKind) && (((ByteArray.toList r_0.fText) == (ByteArray.toList (⟨#[]⟩ : ByteArray))) && ((r_0.fNum == r_0.fNum) && (((r_0.fThing.fId == 0) && ((r_0.fThing.fKind == 0) && ((r_0.fThing.fHidden == false) && ((r_0.fThing.fFixed == false) && ((r_0.fThing.fSigns == false) && ((r_0.fThing.fWraps == false) && (((ByteArray.toList r_0.fThing.fValue) == (ByteArray.toList (⟨#[]⟩ : ByteArray))) && ((r_0.fThing.fNext == 0) && true)))))))) && true))))) then
              some ((⟨#[]⟩ : ByteArray), false)
            else
              (impl_oneByte r_0.fKind).bind fun r8 =>
              bif (decide ((r8.size + r6.size) ≤ 9223372036854775807)) then
              some ((r8 ++ r6), true)
              else none
        else
          some ((⟨#[]⟩ : ByteArray), false)
noncomputable def impl_RecText (r_0 : SRec) : Option (ByteArray × Bool) := E_impl_RecText impl_varText impl_in impl_ThingText impl_oneByte r_0
theorem e_impl_RecText (impl_varText : Int → Option ByteArray) (impl_in : Int → Int → Int → Option Bool) (impl_ThingText : SThing → Option (ByteArray × Bool)) (impl_oneByte : Int → Option ByteArray) : EntryIs0 ctx PP 63 [] [(114, H_impl_varText impl_varText), (64, H_impl_in impl_in), (121, H_impl_ThingText impl_ThingText), (122, H_impl_oneByte impl_oneByte)] cv27 cv17 (fun a => E_impl_RecText impl_varText impl_in impl_ThingText impl_oneByte a) := fun a => by kernel_rfl
theorem ok_impl_RecText : Tells ctx PP 63 cv27 cv17 (fun a => impl_RecText a) := fn_ok0 (hl_cons h_impl_varText (hl_cons h_impl_in (hl_cons h_impl_ThingText (hl_cons h_impl_oneByte hl_nil)))) Tryd.func63 (e_impl_RecText impl_varText impl_in impl_ThingText impl_oneByte)
noncomputable def H_impl_RecText {γ : Type} (F : SRec → Option (ByteArray × Bool)) : Hd ctx γ := hdl cv27.dec (fun a => F a) cv17.enc
theorem h_impl_RecText {γ : Type} : HdOk (γ := γ) PP 63 (H_impl_RecText impl_RecText) := hd_ok ok_impl_RecText
noncomputable def E_impl_VarText (impl_in : Int → Int → Int → Option Bool) (impl_varText : Int → Option ByteArray) (n_0 : Int) : Option (ByteArray × Bool) :=
  (impl_in n_0 (0 : Int) (1000000000 : Int)).bind fun r0 =>
  bif (!r0) then
    some ((⟨#[]⟩ : ByteArray), false)
  else
    (impl_varText n_0).bind fun r1 =>
    some (r1, true)
noncomputable def impl_VarText (n_0 : Int) : Option (ByteArray × Bool) := E_impl_VarText impl_in impl_varText n_0
theorem e_impl_VarText (impl_in : Int → Int → Int → Option Bool) (impl_varText : Int → Option ByteArray) : EntryIs0 ctx PP 153 [] [(64, H_impl_in impl_in), (114, H_impl_varText impl_varText)] cv0 cv17 (fun a => E_impl_VarText impl_in impl_varText a) := fun a => by kernel_rfl
theorem ok_impl_VarText : Tells ctx PP 153 cv0 cv17 (fun a => impl_VarText a) := fn_ok0 (hl_cons h_impl_in (hl_cons h_impl_varText hl_nil)) Tryd.func153 (e_impl_VarText impl_in impl_varText)
noncomputable def H_impl_VarText {γ : Type} (F : Int → Option (ByteArray × Bool)) : Hd ctx γ := hdl cv0.dec (fun a => F a) cv17.enc
theorem h_impl_VarText {γ : Type} : HdOk (γ := γ) PP 153 (H_impl_VarText impl_VarText) := hd_ok ok_impl_VarText
noncomputable def E_impl_firstState   : Option (List Int) :=
  some [(1779033703 : Int), (3144134277 : Int), (1013904242 : Int), (2773480762 : Int), (1359893119 : Int), (2600822924 : Int), (528734635 : Int), (1541459225 : Int)]
noncomputable def impl_firstState  : Option (List Int) := E_impl_firstState  
theorem e_impl_firstState  : EntryIs0 ctx PP 134 [] [] cv4 cv19 (fun _ => E_impl_firstState  ) := fun a => by kernel_rfl
theorem ok_impl_firstState : Tells ctx PP 134 cv4 cv19 (fun _ => impl_firstState ) := fn_ok0 hl_nil Tryd.func134 (e_impl_firstState )
noncomputable def H_impl_firstState {γ : Type} (F : Option (List Int)) : Hd ctx γ := hdl cv4.dec (fun _ => F ) cv19.enc
theorem h_impl_firstState {γ : Type} : HdOk (γ := γ) PP 134 (H_impl_firstState impl_firstState) := hd_ok ok_impl_firstState
noncomputable def E_impl_zeros  (n_0 : Int) : Option ByteArray :=
  bif ((((decide (0 ≤ n_0)) && (decide (n_0 ≤ n_0))) && (decide (n_0 ≤ 9223372036854775807))) && (decide ((n_0.toNat * 1) ≤ 140737488355328))) then
  some (ofBytes (List.replicate n_0.toNat (0 : Int)))
  else none
noncomputable def impl_zeros (n_0 : Int) : Option ByteArray := E_impl_zeros  n_0
theorem e_impl_zeros  : EntryIs0 ctx PP 115 [] [] cv0 cv1 (fun a => E_impl_zeros  a) := fun a => by kernel_rfl
theorem ok_impl_zeros : Tells ctx PP 115 cv0 cv1 (fun a => impl_zeros a) := fn_ok0 hl_nil Tryd.func115 (e_impl_zeros )
noncomputable def H_impl_zeros {γ : Type} (F : Int → Option ByteArray) : Hd ctx γ := hdl cv0.dec (fun a => F a) cv1.enc
theorem h_impl_zeros {γ : Type} : HdOk (γ := γ) PP 115 (H_impl_zeros impl_zeros) := hd_ok ok_impl_zeros
noncomputable def E_impl_fourBytes  (n_0 : Int) : Option ByteArray :=
  some (ofBytes [(w8 (Int.fdiv n_0 (2 ^ (Min.min (24 : Int).toNat (IntKind.bits IntKind.u32))))), (w8 (Int.fdiv n_0 (2 ^ (Min.min (16 : Int).toNat (IntKind.bits IntKind.u32))))), (w8 (Int.fdiv n_0 (2 ^ (Min.min (8 : Int).toNat (IntKind.bits IntKind.u32))))), (w8 n_0)])
noncomputable def impl_fourBytes (n_0 : Int) : Option ByteArray := E_impl_fourBytes  n_0
theorem e_impl_fourBytes  : EntryIs0 ctx PP 123 [] [] cv9 cv1 (fun a => E_impl_fourBytes  a) := fun a => by kernel_rfl
theorem ok_impl_fourBytes : Tells ctx PP 123 cv9 cv1 (fun a => impl_fourBytes a) := fn_ok0 hl_nil Tryd.func123 (e_impl_fourBytes )
noncomputable def H_impl_fourBytes {γ : Type} (F : Int → Option ByteArray) : Hd ctx γ := hdl cv9.dec (fun a => F a) cv1.enc
theorem h_impl_fourBytes {γ : Type} : HdOk (γ := γ) PP 123 (H_impl_fourBytes impl_fourBytes) := hd_ok ok_impl_fourBytes
noncomputable def E_impl_eightBytes (impl_fourBytes : Int → Option ByteArray) (n_0 : Int) : Option ByteArray :=
  (impl_fourBytes (w32 (Int.fdiv n_0 (2 ^ (Min.min (32 : Int).toNat (IntKind.bits IntKind.i64)))))).bind fun r0 =>
  (impl_fourBytes (w32 n_0)).bind fun r1 =>
  bif (decide ((r0.size + r1.size) ≤ 9223372036854775807)) then
  some (r0 ++ r1)
  else none
noncomputable def impl_eightBytes (n_0 : Int) : Option ByteArray := E_impl_eightBytes impl_fourBytes n_0
theorem e_impl_eightBytes (impl_fourBytes : Int → Option ByteArray) : EntryIs0 ctx PP 168 [] [(123, H_impl_fourBytes impl_fourBytes)] cv0 cv1 (fun a => E_impl_eightBytes impl_fourBytes a) := fun a => by kernel_rfl
theorem ok_impl_eightBytes : Tells ctx PP 168 cv0 cv1 (fun a => impl_eightBytes a) := fn_ok0 (hl_cons h_impl_fourBytes hl_nil) Tryd.func168 (e_impl_eightBytes impl_fourBytes)
noncomputable def H_impl_eightBytes {γ : Type} (F : Int → Option ByteArray) : Hd ctx γ := hdl cv0.dec (fun a => F a) cv1.enc
theorem h_impl_eightBytes {γ : Type} : HdOk (γ := γ) PP 168 (H_impl_eightBytes impl_eightBytes) := hd_ok ok_impl_eightBytes
noncomputable def E_impl_ending (impl_zeros : Int → Option ByteArray) (impl_eightBytes : Int → Option ByteArray) (count_0 : Int) : Option ByteArray :=
  (impl_zeros ((w64 (119 - (count_0.tmod 64))).tmod 64)).bind fun r0 =>
  bif (decide (((⟨#[128]⟩ : ByteArray).size + r0.size) ≤ 9223372036854775807)) then
  (impl_eightBytes (w64 (8 * count_0))).bind fun r1 =>
  bif (decide ((((⟨#[128]⟩ : ByteArray) ++ r0).size + r1.size) ≤ 9223372036854775807)) then
  some (((⟨#[128]⟩ : ByteArray) ++ r0) ++ r1)
  else none
  else none
noncomputable def impl_ending (count_0 : Int) : Option ByteArray := E_impl_ending impl_zeros impl_eightBytes count_0
theorem e_impl_ending (impl_zeros : Int → Option ByteArray) (impl_eightBytes : Int → Option ByteArray) : EntryIs0 ctx PP 135 [] [(115, H_impl_zeros impl_zeros), (168, H_impl_eightBytes impl_eightBytes)] cv0 cv1 (fun a => E_impl_ending impl_zeros impl_eightBytes a) := fun a => by kernel_rfl
theorem ok_impl_ending : Tells ctx PP 135 cv0 cv1 (fun a => impl_ending a) := fn_ok0 (hl_cons h_impl_zeros (hl_cons h_impl_eightBytes hl_nil)) Tryd.func135 (e_impl_ending impl_zeros impl_eightBytes)
noncomputable def H_impl_ending {γ : Type} (F : Int → Option ByteArray) : Hd ctx γ := hdl cv0.dec (fun a => F a) cv1.enc
theorem h_impl_ending {γ : Type} : HdOk (γ := γ) PP 135 (H_impl_ending impl_ending) := hd_ok ok_impl_ending
noncomputable def E_math_bits_RotateLeft32  (x_0 : Int) (k_1 : Int) : Option Int :=
  bif (decide (0 ≤ (wu64 (32 - (wu64 (((BitVec.toNat ((BitVec.ofInt (IntKind.bits IntKind.u64) (wu64 k_1)) &&& (BitVec.ofInt (IntKind.bits IntKind.u64) (31 : Int)))) : Nat) : Int)))))) then
  some (w32 (((BitVec.toNat ((BitVec.ofInt (IntKind.bits IntKind.u32) (w32 (x_0 * (2 ^ (Min.min (wu64 (((BitVec.toNat ((BitVec.ofInt (IntKind.bits IntKind.u64) (wu64 k_1)) &&& (BitVec.ofInt (IntKind.bits IntKind.u64) (31 : Int)))) : Nat) : Int)).toNat (IntKind.bits IntKind.u32)))))) ||| (BitVec.ofInt (IntKind.bits IntKind.u32) (Int.fdiv x_0 (2 ^ (Min.min (wu64 (32 - (wu64 (((BitVec.toNat ((BitVec.ofInt (IntKind.bits IntKind.u64) (wu64 k_1)) &&& (BitVec.ofInt (IntKind.bits IntKind.u64) (31 : Int)))) : Nat) : Int)))).toNat (IntKind.bits IntKind.u32))))))) : Nat) : Int))
  else none
noncomputable def math_bits_RotateLeft32 (x_0 : Int) (k_1 : Int) : Option Int := E_math_bits_RotateLeft32  x_0 k_1
theorem e_math_bits_RotateLeft32  : EntryIs0 ctx PP 182 [] [] cv20 cv9 (fun a => E_math_bits_RotateLeft32  a.1 a.2) := fun a => by kernel_rfl
theorem ok_math_bits_RotateLeft32 : Tells ctx PP 182 cv20 cv9 (fun a => math_bits_RotateLeft32 a.1 a.2) := fn_ok0 hl_nil Tryd.func182 (e_math_bits_RotateLeft32 )
noncomputable def H_math_bits_RotateLeft32 {γ : Type} (F : Int → Int → Option Int) : Hd ctx γ := hdl cv20.dec (fun a => F a.1 a.2) cv9.enc
theorem h_math_bits_RotateLeft32 {γ : Type} : HdOk (γ := γ) PP 182 (H_math_bits_RotateLeft32 math_bits_RotateLeft32) := hd_ok ok_math_bits_RotateLeft32
noncomputable def E_impl_right (math_bits_RotateLeft32 : Int → Int → Option Int) (x_0 : Int) (n_1 : Int) : Option Int :=
  (math_bits_RotateLeft32 x_0 (w64 (0 - n_1))).bind fun r0 =>
  some r0
noncomputable def impl_right (x_0 : Int) (n_1 : Int) : Option Int := E_impl_right math_bits_RotateLeft32 x_0 n_1
theorem e_impl_right (math_bits_RotateLeft32 : Int → Int → Option Int) : EntryIs0 ctx PP 180 [] [(182, H_math_bits_RotateLeft32 math_bits_RotateLeft32)] cv20 cv9 (fun a => E_impl_right math_bits_RotateLeft32 a.1 a.2) := fun a => by kernel_rfl
theorem ok_impl_right : Tells ctx PP 180 cv20 cv9 (fun a => impl_right a.1 a.2) := fn_ok0 (hl_cons h_math_bits_RotateLeft32 hl_nil) Tryd.func180 (e_impl_right math_bits_RotateLeft32)
noncomputable def H_impl_right {γ : Type} (F : Int → Int → Option Int) : Hd ctx γ := hdl cv20.dec (fun a => F a.1 a.2) cv9.enc
theorem h_impl_right {γ : Type} : HdOk (γ := γ) PP 180 (H_impl_right impl_right) := hd_ok ok_impl_right
noncomputable def todo_impl_wordsOf_0 : List Go.Item := [.code (cAt (bodyOf Tryd.f179) [1, 1, 0, 1, 0, 0, 0]), .code (cAt (bodyOf Tryd.f179) [1, 1, 0, 1, 0, 0, 1]), .inLoop (cAt (bodyOf Tryd.f179) [1, 1, 0, 1, 0, 0]), .inBlock 0, .code (cAt (bodyOf Tryd.f179) [1, 1, 1])]
noncomputable def todo_impl_wordsOf_1 : List Go.Item := [.code (cAt (bodyOf Tryd.f179) [1, 1, 0, 1, 0, 0, 1, 1, 0, 0, 1, 1, 0, 0, 0]), .code (cAt (bodyOf Tryd.f179) [1, 1, 0, 1, 0, 0, 1, 1, 0, 0, 1, 1, 0, 0, 1]), .inLoop (cAt (bodyOf Tryd.f179) [1, 1, 0, 1, 0, 0, 1, 1, 0, 0, 1, 1, 0, 0]), .inBlock 2, .inBlock 1, .code (cAt (bodyOf Tryd.f179) [1, 1, 0, 1, 0, 0, 1, 1, 1]), .inLoop (cAt (bodyOf Tryd.f179) [1, 1, 0, 1, 0, 0]), .inBlock 0, .code (cAt (bodyOf Tryd.f179) [1, 1, 1])]
noncomputable def todo_impl_wordsOf_2 : List Go.Item := [.code (cAt (bodyOf Tryd.f179) [1, 1, 1, 0, 1, 0, 0, 0, 0]), .code (cAt (bodyOf Tryd.f179) [1, 1, 1, 0, 1, 0, 0, 0, 1]), .code (cAt (bodyOf Tryd.f179) [1, 1, 1, 0, 1, 0, 0, 1]), .inLoop (cAt (bodyOf Tryd.f179) [1, 1, 1, 0, 1, 0, 0]), .inBlock 4, .code (cAt (bodyOf Tryd.f179) [1, 1, 1, 1])]
inductive St_impl_wordsOf where
  | c0 (block_0 : ByteArray) (v_11 : Int) (v_2r0 : (List Int)) (w_3r0 : (List Int))
  | c1 (block_0 : ByteArray) (i_4 : Int) (v_11 : Int) (v_14 : Int) (v_2r0 : (List Int)) (w_3r0 : (List Int))
  | c2 (t_6 : Int) (v_2r0 : (List Int)) (w_3r0 : (List Int))
noncomputable def at_impl_wordsOf : St_impl_wordsOf → LI
  | .c0 block_0 v_11 v_2r0 w_3r0 => (todo_impl_wordsOf_0, [(0, [.one (.str block_0)]), (2, [.one (.ptr 128 0)]), (3, [.one (.ptr 192 0)]), (11, [.one (.int .i64 v_11)])], [(128, .ar 138 v_2r0), (192, .ar 138 w_3r0)])
  | .c1 block_0 i_4 v_11 v_14 v_2r0 w_3r0 => (todo_impl_wordsOf_1, [(0, [.one (.str block_0)]), (2, [.one (.ptr 128 0)]), (3, [.one (.ptr 192 0)]), (4, [.one (.int .i64 i_4)]), (11, [.one (.int .i64 v_11)]), (14, [.one (.int .i64 v_14)])], [(128, .ar 138 v_2r0), (192, .ar 138 w_3r0)])
  | .c2 t_6 v_2r0 w_3r0 => (todo_impl_wordsOf_2, [(2, [.one (.ptr 128 0)]), (3, [.one (.ptr 192 0)]), (6, [.one (.int .i64 t_6)])], [(128, .ar 138 v_2r0), (192, .ar 138 w_3r0)])
noncomputable def E_impl_wordsOf (impl_right : Int → Int → Option Int) (k : St_impl_wordsOf → Option (List Int)) (block_0 : ByteArray) : Option (List Int) :=
  k (.c0 block_0 (0 : Int) (List.replicate 64 (0 : Int)) (List.replicate 64 (0 : Int)))
noncomputable def B_impl_wordsOf (impl_right : Int → Int → Option Int) (k : St_impl_wordsOf → Option (List Int)) : St_impl_wordsOf → Option (List Int)
  | .c0 block_0 v_11 v_2r0 w_3r0 =>
    bif (decide (v_11 < 16)) then
      k (.c1 block_0 v_11 v_11 (0 : Int) v_2r0 w_3r0)
    else
      k (.c2 (16 : Int) v_2r0 w_3r0)
  | .c1 block_0 i_4 v_11 v_14 v_2r0 w_3r0 =>
    bif (decide (v_14 < 4)) then
      bif (Nat.beq 64 w_3r0.length) then
      bif ((decide (0 ≤ i_4)) && (decide (i_4 < (w_3r0.length : Int)))) then
      bif ((decide (0 ≤ (w64 ((w64 (4 * i_4)) + v_14)))) && (decide ((w64 ((w64 (4 * i_4)) + v_14)) < (block_0.size : Int)))) then
      bif (Nat.beq 64 w_3r0.length) then
      bif ((decide (0 ≤ i_4)) && (decide (i_4 < (w_3r0.length : Int)))) then
      k (.c1 block_0 i_4 v_11 (w64 (v_14 + 1)) v_2r0 (w_3r0.set i_4.toNat (w32 (((BitVec.toNat ((BitVec.ofInt (IntKind.bits IntKind.u32) (w32 ((w_3r0.getD i_4.toNat 0) * (2 ^ (Min.min (8 : Int).toNat (IntKind.bits IntKind.u32)))))) ||| (BitVec.ofInt (IntKind.bits IntKind.u32) (w32 (bt block_0 (w64 ((w64 (4 * i_4)) + v_14))))))) : Nat) : Int))))
      else none
      else none
      else none
      else none
      else none
    else
      k (.c0 block_0 (w64 (v_11 + 1)) v_2r0 w_3r0)
  | .c2 t_6 v_2r0 w_3r0 =>
    bif (decide (t_6 < 64)) then
      bif (Nat.beq 64 w_3r0.length) then
      bif ((decide (0 ≤ (w64 (t_6 - 15)))) && (decide ((w64 (t_6 - 15)) < (w_3r0.length : Int)))) then
      bif (Nat.beq 64 w_3r0.length) then
      bif ((decide (0 ≤ (w64 (t_6 - 2)))) && (decide ((w64 (t_6 - 2)) < (w_3r0.length : Int)))) then
      (impl_right (w_3r0.getD (w64 (t_6 - 15)).toNat 0) (7 : Int)).bind fun r0 =>
      (impl_right (w_3r0.getD (w64 (t_6 - 15)).toNat 0) (18 : Int)).bind fun r1 =>
      (impl_right (w_3r0.getD (w64 (t_6 - 2)).toNat 0) (17 : Int)).bind fun r2 =>
      (impl_right (w_3r0.getD (w64 (t_6 - 2)).toNat 0) (19 : Int)).bind fun r3 =>
      bif (Nat.beq 64 w_3r0.length) then
      bif ((decide (0 ≤ (w64 (t_6 - 7)))) && (decide ((w64 (t_6 - 7)) < (w_3r0.length : Int)))) then
      bif (Nat.beq 64 w_3r0.length) then
      bif ((decide (0 ≤ (w64 (t_6 - 16)))) && (decide ((w64 (t_6 - 16)) < (w_3r0.length : Int)))) then
      bif (Nat.beq 64 w_3r0.length) then
      bif ((decide (0 ≤ t_6)) && (decide (t_6 < (w_3r0.length : Int)))) then
      k (.c2 (w64 (t_6 + 1)) v_2r0 (w_3r0.set t_6.toNat (w32 ((w32 ((w32 ((w32 (((BitVec.toNat ((BitVec.ofInt (IntKind.bits IntKind.u32) (w32 (((BitVec.toNat ((BitVec.ofInt (IntKind.bits IntKind.u32) r2) ^^^ (BitVec.ofInt (IntKind.bits IntKind.u32) r3))) : Nat) : Int))) ^^^ (BitVec.ofInt (IntKind.bits IntKind.u32) (Int.fdiv (w_3r0.getD (w64 (t_6 - 2)).toNat 0) (2 ^ (Min.min (10 : Int).toNat (IntKind.bits IntKind.u32))))))) : Nat) : Int)) + (w_3r0.getD (w64 (t_6 - 7)).toNat 0))) + (w32 (((BitVec.toNat ((BitVec.ofInt (IntKind.bits IntKind.u32) (w32 (((BitVec.toNat ((BitVec.ofInt (IntKind.bits IntKind.u32) r0) ^^^ (BitVec.ofInt (IntKind.bits IntKind.u32) r1))) : Nat) : Int))) ^^^ (BitVec.ofInt (IntKind.bits IntKind.u32) (Int.fdiv (w_3r0.getD (w64 (t_6 - 15)).toNat 0) (2 ^ (Min.min (3 : Int).toNat (IntKind.bits IntKind.u32))))))) : Nat) : Int)))) + (w_3r0.getD (w64 (t_6 - 16)).toNat 0)))))
      else none
      else none
      else none
      else none
      else none
      else none
      else none
      else none
      else none
      else none
    else
      bif (Nat.beq 64 w_3r0.length) then
      bif ((Nat.beq w_3r0.length v_2r0.length) && (Nat.beq 64 w_3r0.length)) then
      bif ((Nat.beq 64 w_3r0.length) && true) then
      some w_3r0
      else none
      else none
      else none
noncomputable def L_impl_wordsOf : Nat → St_impl_wordsOf → Option (List Int)
  | 0, _ => none
  | m + 1, s => B_impl_wordsOf impl_right (L_impl_wordsOf m) s
noncomputable def impl_wordsOf (block_0 : ByteArray) : Option (List Int) := E_impl_wordsOf impl_right (L_impl_wordsOf gas) block_0
theorem e_impl_wordsOf (impl_right : Int → Int → Option Int) : EntryIs ctx PP 179 [] [(180, H_impl_right impl_right)] cv1 cv19 at_impl_wordsOf (fun k a => E_impl_wordsOf impl_right k a) := fun stop a => by kernel_rfl
theorem b_impl_wordsOf (impl_right : Int → Int → Option Int) : CutIs ctx PP 179 Tryd.f179 [] [(180, H_impl_right impl_right)] cv19 at_impl_wordsOf (B_impl_wordsOf impl_right) := fun stop s => by cases s <;> kernel_rfl
theorem i_impl_wordsOf : ∀ s s', at_impl_wordsOf s = at_impl_wordsOf s' → s = s' := by
  intro s s' h
  cases s with
  | c0 v0 v1 v2 v3 => cases s' with
    | c0 w0 w1 w2 w3 => cases h; rfl
    | c1 w0 w1 w2 w3 w4 w5 => exact (region_ne 3 6 h (by kernel_rfl) (by kernel_rfl) rfl).elim
    | c2 w0 w1 w2 => exact (region_ne 3 12 h (by kernel_rfl) (by kernel_rfl) rfl).elim
  | c1 v0 v1 v2 v3 v4 v5 => cases s' with
    | c0 w0 w1 w2 w3 => exact (region_ne 6 3 h (by kernel_rfl) (by kernel_rfl) rfl).elim
    | c1 w0 w1 w2 w3 w4 w5 => cases h; rfl
    | c2 w0 w1 w2 => exact (region_ne 6 12 h (by kernel_rfl) (by kernel_rfl) rfl).elim
  | c2 v0 v1 v2 => cases s' with
    | c0 w0 w1 w2 w3 => exact (region_ne 12 3 h (by kernel_rfl) (by kernel_rfl) rfl).elim
    | c1 w0 w1 w2 w3 w4 w5 => exact (region_ne 12 6 h (by kernel_rfl) (by kernel_rfl) rfl).elim
    | c2 w0 w1 w2 => cases h; rfl
theorem ok_impl_wordsOf : Tells ctx PP 179 cv1 cv19 (fun a => impl_wordsOf a) := fn_ok (hl_cons h_impl_right hl_nil) Tryd.func179 i_impl_wordsOf (fun _ => rfl) (fun _ _ => rfl) (b_impl_wordsOf impl_right) (e_impl_wordsOf impl_right) gas
noncomputable def H_impl_wordsOf {γ : Type} (F : ByteArray → Option (List Int)) : Hd ctx γ := hdl cv1.dec (fun a => F a) cv19.enc
theorem h_impl_wordsOf {γ : Type} : HdOk (γ := γ) PP 179 (H_impl_wordsOf impl_wordsOf) := hd_ok ok_impl_wordsOf
noncomputable def todo_impl_oneBlock_0 : List Go.Item := [.code (cAt (bodyOf Tryd.f167) [1, 1, 1, 0, 1, 0, 0, 0]), .code (cAt (bodyOf Tryd.f167) [1, 1, 1, 0, 1, 0, 0, 1]), .inLoop (cAt (bodyOf Tryd.f167) [1, 1, 1, 0, 1, 0, 0]), .inBlock 0, .code (cAt (bodyOf Tryd.f167) [1, 1, 1, 1])]
noncomputable def todo_impl_oneBlock_1 : List Go.Item := [.code (cAt (bodyOf Tryd.f167) [1, 1, 1, 1, 1, 0, 1, 0, 0, 0]), .code (cAt (bodyOf Tryd.f167) [1, 1, 1, 1, 1, 0, 1, 0, 0, 1]), .inLoop (cAt (bodyOf Tryd.f167) [1, 1, 1, 1, 1, 0, 1, 0, 0]), .inBlock 2, .code (cAt (bodyOf Tryd.f167) [1, 1, 1, 1, 1, 1])]
inductive St_impl_oneBlock where
  | c0 (a_6 : Int) (b_7 : Int) (c_8 : Int) (d_9 : Int) (e_10 : Int) (f_11 : Int) (g_12 : Int) (h_13 : Int) (v_37 : Int) (state_2r0 : (List Int)) (v_4r0 : (List Int)) (w_5r0 : (List Int))
  | c1 (v_109 : Int) (state_2r0 : (List Int)) (v_4r0 : (List Int)) (out_17r0 : (List Int))
noncomputable def at_impl_oneBlock : St_impl_oneBlock → LI
  | .c0 a_6 b_7 c_8 d_9 e_10 f_11 g_12 h_13 v_37 state_2r0 v_4r0 w_5r0 => (todo_impl_oneBlock_0, [(2, [.one (.ptr 128 0)]), (4, [.one (.ptr 256 0)]), (5, [.one (.ptr 320 0)]), (6, [.one (.int .u32 a_6)]), (7, [.one (.int .u32 b_7)]), (8, [.one (.int .u32 c_8)]), (9, [.one (.int .u32 d_9)]), (10, [.one (.int .u32 e_10)]), (11, [.one (.int .u32 f_11)]), (12, [.one (.int .u32 g_12)]), (13, [.one (.int .u32 h_13)]), (37, [.one (.int .i64 v_37)])], [(128, .ar 138 state_2r0), (256, .ar 138 v_4r0), (320, .ar 138 w_5r0)])
  | .c1 v_109 state_2r0 v_4r0 out_17r0 => (todo_impl_oneBlock_1, [(2, [.one (.ptr 128 0)]), (4, [.one (.ptr 256 0)]), (17, [.one (.ptr 1088 0)]), (109, [.one (.int .i64 v_109)])], [(128, .ar 138 state_2r0), (256, .ar 138 v_4r0), (1088, .ar 138 out_17r0)])
noncomputable def E_impl_oneBlock (impl_wordsOf : ByteArray → Option (List Int)) (impl_right : Int → Int → Option Int) (k : St_impl_oneBlock → Option (List Int)) (state_0 : (List Int)) (block_1 : ByteArray) : Option (List Int) :=
  (impl_wordsOf block_1).bind fun r0 =>
  bif ((Nat.beq r0.length (List.replicate 64 (0 : Int)).length) && (Nat.beq 64 r0.length)) then
  bif (Nat.beq 8 state_0.length) then
  bif ((decide ((0 : Int) ≤ (0 : Int))) && (decide (0 < (state_0.length : Int)))) then
  bif (Nat.beq 8 state_0.length) then
  bif ((decide ((0 : Int) ≤ (1 : Int))) && (decide (1 < (state_0.length : Int)))) then
  bif (Nat.beq 8 state_0.length) then
  bif ((decide ((0 : Int) ≤ (2 : Int))) && (decide (2 < (state_0.length : Int)))) then
  bif (Nat.beq 8 state_0.length) then
  bif ((decide ((0 : Int) ≤ (3 : Int))) && (decide (3 < (state_0.length : Int)))) then
  bif (Nat.beq 8 state_0.length) then
  bif ((decide ((0 : Int) ≤ (4 : Int))) && (decide (4 < (state_0.length : Int)))) then
  bif (Nat.beq 8 state_0.length) then
  bif ((decide ((0 : Int) ≤ (5 : Int))) && (decide (5 < (state_0.length : Int)))) then
  bif (Nat.beq 8 state_0.length) then
  bif ((decide ((0 : Int) ≤ (6 : Int))) && (decide (6 < (state_0.length : Int)))) then
  bif (Nat.beq 8 state_0.length) then
  bif ((decide ((0 : Int) ≤ (7 : Int))) && (decide (7 < (state_0.length : Int)))) then
  k (.c0 (state_0.getD (0 : Int).toNat 0) (state_0.getD (1 : Int).toNat 0) (state_0.getD (2 : Int).toNat 0) (state_0.getD (3 : Int).toNat 0) (state_0.getD (4 : Int).toNat 0) (state_0.getD (5 : Int).toNat 0) (state_0.getD (6 : Int).toNat 0) (state_0.getD (7 : Int).toNat 0) (0 : Int) state_0 [(0 : Int), (0 : Int), (0 : Int), (0 : Int), (0 : Int), (0 : Int), (0 : Int), (0 : Int)] r0)
  else none
  else none
  else none
  else none
  else none
  else none
  else none
  else none
  else none
  else none
  else none
  else none
  else none
  else none
  else none
  else none
  else none
noncomputable def B_impl_oneBlock (impl_wordsOf : ByteArray → Option (List Int)) (impl_right : Int → Int → Option Int) (k : St_impl_oneBlock → Option (List Int)) : St_impl_oneBlock → Option (List Int)
  | .c0 a_6 b_7 c_8 d_9 e_10 f_11 g_12 h_13 v_37 state_2r0 v_4r0 w_5r0 =>
    bif (decide (v_37 < 64)) then
      (impl_right e_10 (6 : Int)).bind fun r0 =>
      (impl_right e_10 (11 : Int)).bind fun r1 =>
      (impl_right e_10 (25 : Int)).bind fun r2 =>
      bif ((decide (0 ≤ v_37)) && (decide (v_37 < ((64 : Nat) : Int)))) then
      bif (Nat.blt v_37.toNat 64) then
      bif (Nat.beq 64 w_5r0.length) then
      bif ((decide (0 ≤ v_37)) && (decide (v_37 < (w_5r0.length : Int)))) then
      (impl_right a_6 (2 : Int)).bind fun r3 =>
      (impl_right a_6 (13 : Int)).bind fun r4 =>
      (impl_right a_6 (22 : Int)).bind fun r5 =>
      k (.c0 (w32 ((w32 ((w32 ((w32 ((w32 (h_13 + (w32 (((BitVec.toNat ((BitVec.ofInt (IntKind.bits IntKind.u32) (w32 (((BitVec.toNat ((BitVec.ofInt (IntKind.bits IntKind.u32) r0) ^^^ (BitVec.ofInt (IntKind.bits IntKind.u32) r1))) : Nat) : Int))) ^^^ (BitVec.ofInt (IntKind.bits IntKind.u32) r2))) : Nat) : Int)))) + (w32 (((BitVec.toNat ((BitVec.ofInt (IntKind.bits IntKind.u32) (w32 (((BitVec.toNat ((BitVec.ofInt (IntKind.bits IntKind.u32) e_10) &&& (BitVec.ofInt (IntKind.bits IntKind.u32) f_11))) : Nat) : Int))) ^^^ (BitVec.ofInt (IntKind.bits IntKind.u32) (w32 (((BitVec.toNat ((BitVec.ofInt (IntKind.bits IntKind.u32) (w32 (((BitVec.toNat ((BitVec.ofInt (IntKind.bits IntKind.u32) (ite ((IntKind.signed IntKind.u32) = true) (-(1 : Int)) (IntKind.max IntKind.u32))) ^^^ (BitVec.ofInt (IntKind.bits IntKind.u32) e_10))) : Nat) : Int))) &&& (BitVec.ofInt (IntKind.bits IntKind.u32) g_12))) : Nat) : Int))))) : Nat) : Int)))) + ([(1116352408 : Int), (1899447441 : Int), (3049323471 : Int), (3921009573 : Int), (961987163 : Int), (1508970993 : Int), (2453635748 : Int), (2870763221 : Int), (3624381080 : Int), (310598401 : Int), (607225278 : Int), (1426881987 : Int), (1925078388 : Int), (2162078206 : Int), (2614888103 : Int), (3248222580 : Int), (3835390401 : Int), (4022224774 : Int), (264347078 : Int), (604807628 : Int), (770255983 : Int), (1249150122 : Int), (1555081692 : Int), (1996064986 : Int), (2554220882 : Int), (2821834349 : Int), (2952996808 : Int), (3210313671 : Int), (3336571891 : Int), (3584528711 : Int), (113926993 : Int), (338241895 : Int), (666307205 : Int), (773529912 : Int), (1294757372 : Int), (1396182291 : Int), (1695183700 : Int), (1986661051 : Int), (2177026350 : Int), (2456956037 : Int), (2730485921 : Int), (2820302411 : Int), (3259730800 : Int), (3345764771 : Int), (3516065817 : Int), (3600352804 : Int), (4094571909 : Int), (275423344 : Int), (430227734 : Int), (506948616 : Int), (659060556 : Int), (883997877 : Int), (958139571 : Int), (1322822218 : Int), (1537002063 : Int), (1747873779 : Int), (1955562222 : Int), (2024104815 : Int), (2227730452 : Int), (2361852424 : Int), (2428436474 : Int), (2756734187 : Int), (3204031479 : Int), (3329325298 : Int)].getD v_37.toNat 0))) + (w_5r0.getD v_37.toNat 0))) + (w32 ((w32 (((BitVec.toNat ((BitVec.ofInt (IntKind.bits IntKind.u32) (w32 (((BitVec.toNat ((BitVec.ofInt (IntKind.bits IntKind.u32) r3) ^^^ (BitVec.ofInt (IntKind.bits IntKind.u32) r4))) : Nat) : Int))) ^^^ (BitVec.ofInt (IntKind.bits IntKind.u32) r5))) : Nat) : Int)) + (w32 (((BitVec.toNat ((BitVec.ofInt (IntKind.bits IntKind.u32) (w32 (((BitVec.toNat ((BitVec.ofInt (IntKind.bits IntKind.u32) (w32 (((BitVec.toNat ((BitVec.ofInt (IntKind.bits IntKind.u32) a_6) &&& (BitVec.ofInt (IntKind.bits IntKind.u32) b_7))) : Nat) : Int))) ^^^ (BitVec.ofInt (IntKind.bits IntKind.u32) (w32 (((BitVec.toNat ((BitVec.ofInt (IntKind.bits IntKind.u32) a_6) &&& (BitVec.ofInt (IntKind.bits IntKind.u32) c_8))) : Nat) : Int))))) : Nat) : Int))) ^^^ (BitVec.ofInt (IntKind.bits IntKind.u32) (w32 (((BitVec.toNat ((BitVec.ofInt (IntKind.bits IntKind.u32) b_7) &&& (BitVec.ofInt (IntKind.bits IntKind.u32) c_8))) : Nat) : Int))))) : Nat) : Int)))))) a_6 b_7 c_8 (w32 (d_9 + (w32 ((w32 ((w32 ((w32 (h_13 + (w32 (((BitVec.toNat ((BitVec.ofInt (IntKind.bits IntKind.u32) (w32 (((BitVec.toNat ((BitVec.ofInt (IntKind.bits IntKind.u32) r0) ^^^ (BitVec.ofInt (IntKind.bits IntKind.u32) r1))) : Nat) : Int))) ^^^ (BitVec.ofInt (IntKind.bits IntKind.u32) r2))) : Nat) : Int)))) + (w32 (((BitVec.toNat ((BitVec.ofInt (IntKind.bits IntKind.u32) (w32 (((BitVec.toNat ((BitVec.ofInt (IntKind.bits IntKind.u32) e_10) &&& (BitVec.ofInt (IntKind.bits IntKind.u32) f_11))) : Nat) : Int))) ^^^ (BitVec.ofInt (IntKind.bits IntKind.u32) (w32 (((BitVec.toNat ((BitVec.ofInt (IntKind.bits IntKind.u32) (w32 (((BitVec.toNat ((BitVec.ofInt (IntKind.bits IntKind.u32) (ite ((IntKind.signed IntKind.u32) = true) (-(1 : Int)) (IntKind.max IntKind.u32))) ^^^ (BitVec.ofInt (IntKind.bits IntKind.u32) e_10))) : Nat) : Int))) &&& (BitVec.ofInt (IntKind.bits IntKind.u32) g_12))) : Nat) : Int))))) : Nat) : Int)))) + ([(1116352408 : Int), (1899447441 : Int), (3049323471 : Int), (3921009573 : Int), (961987163 : Int), (1508970993 : Int), (2453635748 : Int), (2870763221 : Int), (3624381080 : Int), (310598401 : Int), (607225278 : Int), (1426881987 : Int), (1925078388 : Int), (2162078206 : Int), (2614888103 : Int), (3248222580 : Int), (3835390401 : Int), (4022224774 : Int), (264347078 : Int), (604807628 : Int), (770255983 : Int), (1249150122 : Int), (1555081692 : Int), (1996064986 : Int), (2554220882 : Int), (2821834349 : Int), (2952996808 : Int), (3210313671 : Int), (3336571891 : Int), (3584528711 : Int), (113926993 : Int), (338241895 : Int), (666307205 : Int), (773529912 : Int), (1294757372 : Int), (1396182291 : Int), (1695183700 : Int), (1986661051 : Int), (2177026350 : Int), (2456956037 : Int), (2730485921 : Int), (2820302411 : Int), (3259730800 : Int), (3345764771 : Int), (3516065817 : Int), (3600352804 : Int), (4094571909 : Int), (275423344 : Int), (430227734 : Int), (506948616 : Int), (659060556 : Int), (883997877 : Int), (958139571 : Int), (1322822218 : Int), (1537002063 : Int), (1747873779 : Int), (1955562222 : Int), (2024104815 : Int), (2227730452 : Int), (2361852424 : Int), (2428436474 : Int), (2756734187 : Int), (3204031479 : Int), (3329325298 : Int)].getD v_37.toNat 0))) + (w_5r0.getD v_37.toNat 0))))) e_10 f_11 g_12 (w64 (v_37 + 1)) state_2r0 v_4r0 w_5r0)
      else none
      else none
      else none
      else none
    else
      k (.c1 (0 : Int) state_2r0 v_4r0 [a_6, b_7, c_8, d_9, e_10, f_11, g_12, h_13])
  | .c1 v_109 state_2r0 v_4r0 out_17r0 =>
    bif (decide (v_109 < 8)) then
      bif (Nat.beq 8 out_17r0.length) then
      bif ((decide (0 ≤ v_109)) && (decide (v_109 < (out_17r0.length : Int)))) then
      bif (Nat.beq 8 state_2r0.length) then
      bif ((decide (0 ≤ v_109)) && (decide (v_109 < (state_2r0.length : Int)))) then
      bif (Nat.beq 8 out_17r0.length) then
      bif ((decide (0 ≤ v_109)) && (decide (v_109 < (out_17r0.length : Int)))) then
      k (.c1 (w64 (v_109 + 1)) state_2r0 v_4r0 (out_17r0.set v_109.toNat (w32 ((out_17r0.getD v_109.toNat 0) + (state_2r0.getD v_109.toNat 0)))))
      else none
      else none
      else none
      else none
      else none
      else none
    else
      bif (Nat.beq 8 out_17r0.length) then
      bif ((Nat.beq out_17r0.length v_4r0.length) && (Nat.beq 8 out_17r0.length)) then
      bif ((Nat.beq 8 out_17r0.length) && true) then
      some out_17r0
      else none
      else none
      else none
noncomputable def L_impl_oneBlock : Nat → St_impl_oneBlock → Option (List Int)
  | 0, _ => none
  | m + 1, s => B_impl_oneBlock impl_wordsOf impl_right (L_impl_oneBlock m) s
noncomputable def impl_oneBlock (state_0 : (List Int)) (block_1 : ByteArray) : Option (List Int) := E_impl_oneBlock impl_wordsOf impl_right (L_impl_oneBlock gas) state_0 block_1
theorem e_impl_oneBlock (impl_wordsOf : ByteArray → Option (List Int)) (impl_right : Int → Int → Option Int) : EntryIs ctx PP 167 [] [(179, H_impl_wordsOf impl_wordsOf), (180, H_impl_right impl_right)] cv21 cv19 at_impl_oneBlock (fun k a => E_impl_oneBlock impl_wordsOf impl_right k a.1 a.2) := fun stop a => by kernel_rfl
theorem b_impl_oneBlock (impl_wordsOf : ByteArray → Option (List Int)) (impl_right : Int → Int → Option Int) : CutIs ctx PP 167 Tryd.f167 [] [(179, H_impl_wordsOf impl_wordsOf), (180, H_impl_right impl_right)] cv19 at_impl_oneBlock (B_impl_oneBlock impl_wordsOf impl_right) := fun stop s => by cases s <;> kernel_rfl
theorem i_impl_oneBlock : ∀ s s', at_impl_oneBlock s = at_impl_oneBlock s' → s = s' := by
  intro s s' h
  cases s with
  | c0 v0 v1 v2 v3 v4 v5 v6 v7 v8 v9 v10 v11 => cases s' with
    | c0 w0 w1 w2 w3 w4 w5 w6 w7 w8 w9 w10 w11 => cases h; rfl
    | c1 w0 w1 w2 w3 => exact (region_ne 4 13 h (by kernel_rfl) (by kernel_rfl) rfl).elim
  | c1 v0 v1 v2 v3 => cases s' with
    | c0 w0 w1 w2 w3 w4 w5 w6 w7 w8 w9 w10 w11 => exact (region_ne 13 4 h (by kernel_rfl) (by kernel_rfl) rfl).elim
    | c1 w0 w1 w2 w3 => cases h; rfl
theorem ok_impl_oneBlock : Tells ctx PP 167 cv21 cv19 (fun a => impl_oneBlock a.1 a.2) := fn_ok (hl_cons h_impl_wordsOf (hl_cons h_impl_right hl_nil)) Tryd.func167 i_impl_oneBlock (fun _ => rfl) (fun _ _ => rfl) (b_impl_oneBlock impl_wordsOf impl_right) (e_impl_oneBlock impl_wordsOf impl_right) gas
noncomputable def H_impl_oneBlock {γ : Type} (F : (List Int) → ByteArray → Option (List Int)) : Hd ctx γ := hdl cv21.dec (fun a => F a.1 a.2) cv19.enc
theorem h_impl_oneBlock {γ : Type} : HdOk (γ := γ) PP 167 (H_impl_oneBlock impl_oneBlock) := hd_ok ok_impl_oneBlock
noncomputable def todo_impl_blocks_0 : List Go.Item := [.code (cAt (bodyOf Tryd.f133) [1, 0, 0, 0, 0, 0]), .code (cAt (bodyOf Tryd.f133) [1, 0, 0, 0, 0, 1]), .code (cAt (bodyOf Tryd.f133) [1, 0, 0, 0, 1]), .inLoop (cAt (bodyOf Tryd.f133) [1, 0, 0, 0]), .inBlock 0, .code (cAt (bodyOf Tryd.f133) [1, 1])]
inductive St_impl_blocks where
  | c0 (s_1 : ByteArray) (state_2r0 : (List Int)) (v_4r0 : (List Int))
noncomputable def at_impl_blocks : St_impl_blocks → LI
  | .c0 s_1 state_2r0 v_4r0 => (todo_impl_blocks_0, [(1, [.one (.str s_1)]), (2, [.one (.ptr 128 0)]), (4, [.one (.ptr 256 0)])], [(128, .ar 138 state_2r0), (256, .ar 138 v_4r0)])
noncomputable def E_impl_blocks (impl_oneBlock : (List Int) → ByteArray → Option (List Int)) (k : St_impl_blocks → Option ((List Int) × ByteArray)) (state_0 : (List Int)) (s_1 : ByteArray) : Option ((List Int) × ByteArray) :=
  k (.c0 s_1 state_0 [(0 : Int), (0 : Int), (0 : Int), (0 : Int), (0 : Int), (0 : Int), (0 : Int), (0 : Int)])
noncomputable def B_impl_blocks (impl_oneBlock : (List Int) → ByteArray → Option (List Int)) (k : St_impl_blocks → Option ((List Int) × ByteArray)) : St_impl_blocks → Option ((List Int) × ByteArray)
  | .c0 s_1 state_2r0 v_4r0 =>
    bif (decide ((s_1.size : Int) ≥ 64)) then
      bif (Nat.beq 8 state_2r0.length) then
      bif ((decide ((0 : Int) ≤ (64 : Int))) && (decide (64 ≤ (s_1.size : Int)))) then
      (impl_oneBlock state_2r0 (s_1.extract 0 (64 : Int).toNat)).bind fun r0 =>
      bif ((Nat.beq r0.length state_2r0.length) && (Nat.beq 8 r0.length)) then
      bif ((decide ((0 : Int) ≤ (64 : Int))) && (decide (64 ≤ (s_1.size : Int)))) then
      k (.c0 (s_1.extract (64 : Int).toNat s_1.size) r0 v_4r0)
      else none
      else none
      else none
      else none
    else
      bif (Nat.beq 8 state_2r0.length) then
      bif ((Nat.beq state_2r0.length v_4r0.length) && (Nat.beq 8 state_2r0.length)) then
      bif ((Nat.beq 8 state_2r0.length) && true) then
      some (state_2r0, s_1)
      else none
      else none
      else none
noncomputable def L_impl_blocks : Nat → St_impl_blocks → Option ((List Int) × ByteArray)
  | 0, _ => none
  | m + 1, s => B_impl_blocks impl_oneBlock (L_impl_blocks m) s
noncomputable def impl_blocks (state_0 : (List Int)) (s_1 : ByteArray) : Option ((List Int) × ByteArray) := E_impl_blocks impl_oneBlock (L_impl_blocks gas) state_0 s_1
theorem e_impl_blocks (impl_oneBlock : (List Int) → ByteArray → Option (List Int)) : EntryIs ctx PP 133 [] [(167, H_impl_oneBlock impl_oneBlock)] cv21 cv21 at_impl_blocks (fun k a => E_impl_blocks impl_oneBlock k a.1 a.2) := fun stop a => by kernel_rfl
theorem b_impl_blocks (impl_oneBlock : (List Int) → ByteArray → Option (List Int)) : CutIs ctx PP 133 Tryd.f133 [] [(167, H_impl_oneBlock impl_oneBlock)] cv21 at_impl_blocks (B_impl_blocks impl_oneBlock) := fun stop s => by cases s <;> kernel_rfl
theorem i_impl_blocks : ∀ s s', at_impl_blocks s = at_impl_blocks s' → s = s' := by
  intro s s' h
  cases s with
  | c0 v0 v1 v2 => cases s' with
    | c0 w0 w1 w2 => cases h; rfl
theorem ok_impl_blocks : Tells ctx PP 133 cv21 cv21 (fun a => impl_blocks a.1 a.2) := fn_ok (hl_cons h_impl_oneBlock hl_nil) Tryd.func133 i_impl_blocks (fun _ => rfl) (fun _ _ => rfl) (b_impl_blocks impl_oneBlock) (e_impl_blocks impl_oneBlock) gas
noncomputable def H_impl_blocks {γ : Type} (F : (List Int) → ByteArray → Option ((List Int) × ByteArray)) : Hd ctx γ := hdl cv21.dec (fun a => F a.1 a.2) cv21.enc
theorem h_impl_blocks {γ : Type} : HdOk (γ := γ) PP 133 (H_impl_blocks impl_blocks) := hd_ok ok_impl_blocks
noncomputable def todo_impl_stateText_0 : List Go.Item := [.code (cAt (bodyOf Tryd.f136) [1, 1, 0, 1, 0, 0, 0]), .code (cAt (bodyOf Tryd.f136) [1, 1, 0, 1, 0, 0, 1]), .inLoop (cAt (bodyOf Tryd.f136) [1, 1, 0, 1, 0, 0]), .inBlock 0, .code (cAt (bodyOf Tryd.f136) [1, 1, 1])]
inductive St_impl_stateText where
  | c0 (out_3 : ByteArray) (v_6 : (List Int)) (v_7 : Int)
noncomputable def at_impl_stateText : St_impl_stateText → LI
  | .c0 out_3 v_6 v_7 => (todo_impl_stateText_0, [(3, [.one (.str out_3)]), (6, [.arr 138 v_6]), (7, [.one (.int .i64 v_7)])], [])
noncomputable def E_impl_stateText (impl_fourBytes : Int → Option ByteArray) (k : St_impl_stateText → Option ByteArray) (state_0 : (List Int)) : Option ByteArray :=
  bif (Nat.beq 8 state_0.length) then
  k (.c0 (⟨#[]⟩ : ByteArray) state_0 (0 : Int))
  else none
noncomputable def B_impl_stateText (impl_fourBytes : Int → Option ByteArray) (k : St_impl_stateText → Option ByteArray) : St_impl_stateText → Option ByteArray
  | .c0 out_3 v_6 v_7 =>
    bif (decide (v_7 < 8)) then
      bif (Nat.beq 8 v_6.length) then
      bif ((decide (0 ≤ v_7)) && (decide (v_7 < (v_6.length : Int)))) then
      (impl_fourBytes (v_6.getD v_7.toNat 0)).bind fun r0 =>
      bif (decide ((out_3.size + r0.size) ≤ 9223372036854775807)) then
      k (.c0 (out_3 ++ r0) v_6 (w64 (v_7 + 1)))
      else none
      else none
      else none
    else
      some out_3
noncomputable def L_impl_stateText : Nat → St_impl_stateText → Option ByteArray
  | 0, _ => none
  | m + 1, s => B_impl_stateText impl_fourBytes (L_impl_stateText m) s
noncomputable def impl_stateText (state_0 : (List Int)) : Option ByteArray := E_impl_stateText impl_fourBytes (L_impl_stateText gas) state_0
theorem e_impl_stateText (impl_fourBytes : Int → Option ByteArray) : EntryIs ctx PP 136 [] [(123, H_impl_fourBytes impl_fourBytes)] cv19 cv1 at_impl_stateText (fun k a => E_impl_stateText impl_fourBytes k a) := fun stop a => by kernel_rfl
theorem b_impl_stateText (impl_fourBytes : Int → Option ByteArray) : CutIs ctx PP 136 Tryd.f136 [] [(123, H_impl_fourBytes impl_fourBytes)] cv1 at_impl_stateText (B_impl_stateText impl_fourBytes) := fun stop s => by cases s <;> kernel_rfl
theorem i_impl_stateText : ∀ s s', at_impl_stateText s = at_impl_stateText s' → s = s' := by
  intro s s' h
  cases s with
  | c0 v0 v1 v2 => cases s' with
    | c0 w0 w1 w2 => cases h; rfl
theorem ok_impl_stateText : Tells ctx PP 136 cv19 cv1 (fun a => impl_stateText a) := fn_ok (hl_cons h_impl_fourBytes hl_nil) Tryd.func136 i_impl_stateText (fun _ => rfl) (fun _ _ => rfl) (b_impl_stateText impl_fourBytes) (e_impl_stateText impl_fourBytes) gas
noncomputable def H_impl_stateText {γ : Type} (F : (List Int) → Option ByteArray) : Hd ctx γ := hdl cv19.dec (fun a => F a) cv1.enc
theorem h_impl_stateText {γ : Type} : HdOk (γ := γ) PP 136 (H_impl_stateText impl_stateText) := hd_ok ok_impl_stateText
noncomputable def E_impl_DigestOf (impl_firstState : Option (List Int)) (impl_ending : Int → Option ByteArray) (impl_blocks : (List Int) → ByteArray → Option ((List Int) × ByteArray)) (impl_stateText : (List Int) → Option ByteArray) (s_0 : ByteArray) : Option ByteArray :=
  impl_firstState.bind fun r0 =>
  (impl_ending (s_0.size : Int)).bind fun r1 =>
  bif (decide ((s_0.size + r1.size) ≤ 9223372036854775807)) then
  (impl_blocks r0 (s_0 ++ r1)).bind fun r2 =>
  bif ((Nat.beq r2.1.length 8) && (Nat.beq 8 r2.1.length)) then
  bif (Nat.beq 8 r2.1.length) then
  (impl_stateText r2.1).bind fun r3 =>
  some r3
  else none
  else none
  else none
noncomputable def impl_DigestOf (s_0 : ByteArray) : Option ByteArray := E_impl_DigestOf impl_firstState impl_ending impl_blocks impl_stateText s_0
theorem e_impl_DigestOf (impl_firstState : Option (List Int)) (impl_ending : Int → Option ByteArray) (impl_blocks : (List Int) → ByteArray → Option ((List Int) × ByteArray)) (impl_stateText : (List Int) → Option ByteArray) : EntryIs0 ctx PP 84 [] [(134, H_impl_firstState impl_firstState), (135, H_impl_ending impl_ending), (133, H_impl_blocks impl_blocks), (136, H_impl_stateText impl_stateText)] cv1 cv1 (fun a => E_impl_DigestOf impl_firstState impl_ending impl_blocks impl_stateText a) := fun a => by kernel_rfl
theorem ok_impl_DigestOf : Tells ctx PP 84 cv1 cv1 (fun a => impl_DigestOf a) := fn_ok0 (hl_cons h_impl_firstState (hl_cons h_impl_ending (hl_cons h_impl_blocks (hl_cons h_impl_stateText hl_nil)))) Tryd.func84 (e_impl_DigestOf impl_firstState impl_ending impl_blocks impl_stateText)
noncomputable def H_impl_DigestOf {γ : Type} (F : ByteArray → Option ByteArray) : Hd ctx γ := hdl cv1.dec (fun a => F a) cv1.enc
theorem h_impl_DigestOf {γ : Type} : HdOk (γ := γ) PP 84 (H_impl_DigestOf impl_DigestOf) := hd_ok ok_impl_DigestOf
noncomputable def todo_impl_xored_0 : List Go.Item := [.code (cAt (bodyOf Tryd.f176) [1, 1, 0, 1, 0, 0, 0]), .code (cAt (bodyOf Tryd.f176) [1, 1, 0, 1, 0, 0, 1]), .inLoop (cAt (bodyOf Tryd.f176) [1, 1, 0, 1, 0, 0]), .inBlock 0, .code (cAt (bodyOf Tryd.f176) [1, 1, 1])]
inductive St_impl_xored where
  | c0 (x_1 : Int) (v_10 : Int) (v_11 : Int) (out_5 : (List Int))
noncomputable def at_impl_xored : St_impl_xored → LI
  | .c0 x_1 v_10 v_11 out_5 => (todo_impl_xored_0, [(1, [.one (.int .u8 x_1)]), (5, [.one (.own 368)]), (10, [.one (.int .i64 v_10)]), (11, [.one (.int .i64 v_11)])], [(368, .sl 5 out_5)])
noncomputable def E_impl_xored  (k : St_impl_xored → Option ByteArray) (s_0 : ByteArray) (x_1 : Int) : Option ByteArray :=
  bif (decide (s_0.size ≤ 9223372036854775807)) then
  k (.c0 x_1 ((bytesOf s_0).length : Int) (0 : Int) (bytesOf s_0))
  else none
noncomputable def B_impl_xored  (k : St_impl_xored → Option ByteArray) : St_impl_xored → Option ByteArray
  | .c0 x_1 v_10 v_11 out_5 =>
    bif (decide (v_11 < v_10)) then
      bif ((decide (0 ≤ v_11)) && (decide (v_11 < (out_5.length : Int)))) then
      bif ((decide (0 ≤ v_11)) && (decide (v_11 < (out_5.length : Int)))) then
      k (.c0 x_1 v_10 (w64 (v_11 + 1)) (out_5.set v_11.toNat (w8 (((BitVec.toNat ((BitVec.ofInt (IntKind.bits IntKind.u8) (out_5.getD v_11.toNat 0)) ^^^ (BitVec.ofInt (IntKind.bits IntKind.u8) x_1))) : Nat) : Int))))
      else none
      else none
    else
      some (ofBytes out_5)
noncomputable def L_impl_xored : Nat → St_impl_xored → Option ByteArray
  | 0, _ => none
  | m + 1, s => B_impl_xored  (L_impl_xored m) s
noncomputable def impl_xored (s_0 : ByteArray) (x_1 : Int) : Option ByteArray := E_impl_xored  (L_impl_xored gas) s_0 x_1
theorem e_impl_xored  : EntryIs ctx PP 176 [] [] cv14 cv1 at_impl_xored (fun k a => E_impl_xored  k a.1 a.2) := fun stop a => by kernel_rfl
theorem b_impl_xored  : CutIs ctx PP 176 Tryd.f176 [] [] cv1 at_impl_xored (B_impl_xored ) := fun stop s => by cases s <;> kernel_rfl
theorem i_impl_xored : ∀ s s', at_impl_xored s = at_impl_xored s' → s = s' := by
  intro s s' h
  cases s with
  | c0 v0 v1 v2 v3 => cases s' with
    | c0 w0 w1 w2 w3 => cases h; rfl
theorem ok_impl_xored : Tells ctx PP 176 cv14 cv1 (fun a => impl_xored a.1 a.2) := fn_ok hl_nil Tryd.func176 i_impl_xored (fun _ => rfl) (fun _ _ => rfl) (b_impl_xored ) (e_impl_xored ) gas
noncomputable def H_impl_xored {γ : Type} (F : ByteArray → Int → Option ByteArray) : Hd ctx γ := hdl cv14.dec (fun a => F a.1 a.2) cv1.enc
theorem h_impl_xored {γ : Type} : HdOk (γ := γ) PP 176 (H_impl_xored impl_xored) := hd_ok ok_impl_xored
noncomputable def E_impl_MacOf (impl_DigestOf : ByteArray → Option ByteArray) (impl_zeros : Int → Option ByteArray) (impl_xored : ByteArray → Int → Option ByteArray) (key_0 : ByteArray) (s_1 : ByteArray) : Option ByteArray :=
  bif (decide ((key_0.size : Int) > 64)) then
    (impl_DigestOf key_0).bind fun r0 =>
    (impl_zeros (w64 (64 - (r0.size : Int)))).bind fun r1 =>
    bif (decide ((r0.size + r1.size) ≤ 9223372036854775807)) then
    (impl_xored (r0 ++ r1) (92 : Int)).bind fun r2 =>
    (impl_xored (r0 ++ r1) (54 : Int)).bind fun r3 =>
    bif (decide ((r3.size + s_1.size) ≤ 9223372036854775807)) then
    (impl_DigestOf (r3 ++ s_1)).bind fun r4 =>
    bif (decide ((r2.size + r4.size) ≤ 9223372036854775807)) then
    (impl_DigestOf (r2 ++ r4)).bind fun r5 =>
    some r5
    else none
    else none
    else none
  else
    (impl_zeros (w64 (64 - (key_0.size : Int)))).bind fun r6 =>
    bif (decide ((key_0.size + r6.size) ≤ 9223372036854775807)) then
    (impl_xored (key_0 ++ r6) (92 : Int)).bind fun r7 =>
    (impl_xored (key_0 ++ r6) (54 : Int)).bind fun r8 =>
    bif (decide ((r8.size + s_1.size) ≤ 9223372036854775807)) then
    (impl_DigestOf (r8 ++ s_1)).bind fun r9 =>
    bif (decide ((r7.size + r9.size) ≤ 9223372036854775807)) then
    (impl_DigestOf (r7 ++ r9)).bind fun r10 =>
    some r10
    else none
    else none
    else none
noncomputable def impl_MacOf (key_0 : ByteArray) (s_1 : ByteArray) : Option ByteArray := E_impl_MacOf impl_DigestOf impl_zeros impl_xored key_0 s_1
theorem e_impl_MacOf (impl_DigestOf : ByteArray → Option ByteArray) (impl_zeros : Int → Option ByteArray) (impl_xored : ByteArray → Int → Option ByteArray) : EntryIs0 ctx PP 154 [] [(84, H_impl_DigestOf impl_DigestOf), (115, H_impl_zeros impl_zeros), (176, H_impl_xored impl_xored)] cv15 cv1 (fun a => E_impl_MacOf impl_DigestOf impl_zeros impl_xored a.1 a.2) := fun a => by kernel_rfl
theorem ok_impl_MacOf : Tells ctx PP 154 cv15 cv1 (fun a => impl_MacOf a.1 a.2) := fn_ok0 (hl_cons h_impl_DigestOf (hl_cons h_impl_zeros (hl_cons h_impl_xored hl_nil))) Tryd.func154 (e_impl_MacOf impl_DigestOf impl_zeros impl_xored)
noncomputable def H_impl_MacOf {γ : Type} (F : ByteArray → ByteArray → Option ByteArray) : Hd ctx γ := hdl cv15.dec (fun a => F a.1 a.2) cv1.enc
theorem h_impl_MacOf {γ : Type} : HdOk (γ := γ) PP 154 (H_impl_MacOf impl_MacOf) := hd_ok ok_impl_MacOf
noncomputable def todo_impl_Mask_0 : List Go.Item := [.code (cAt (bodyOf Tryd.f111) [1, 1, 1, 1, 0, 1, 0, 0, 0, 0]), .code (cAt (bodyOf Tryd.f111) [1, 1, 1, 1, 0, 1, 0, 0, 0, 1]), .code (cAt (bodyOf Tryd.f111) [1, 1, 1, 1, 0, 1, 0, 0, 1]), .inLoop (cAt (bodyOf Tryd.f111) [1, 1, 1, 1, 0, 1, 0, 0]), .inBlock 0, .code (cAt (bodyOf Tryd.f111) [1, 1, 1, 1, 1])]
inductive St_impl_Mask where
  | c0 (key_0 : ByteArray) (n_2 : Int) (v_8 : ByteArray) (out_10 : ByteArray) (i_11 : Int)
noncomputable def at_impl_Mask : St_impl_Mask → LI
  | .c0 key_0 n_2 v_8 out_10 i_11 => (todo_impl_Mask_0, [(0, [.one (.str key_0)]), (2, [.one (.int .i64 n_2)]), (8, [.one (.str v_8)]), (10, [.one (.str out_10)]), (11, [.one (.int .i64 i_11)])], [])
noncomputable def E_impl_Mask (impl_VarText : Int → Option (ByteArray × Bool)) (impl_in : Int → Int → Int → Option Bool) (impl_oneByte : Int → Option ByteArray) (impl_MacOf : ByteArray → ByteArray → Option ByteArray) (k : St_impl_Mask → Option (ByteArray × Bool)) (key_0 : ByteArray) (num_1 : Int) (n_2 : Int) : Option (ByteArray × Bool) :=
  (impl_VarText num_1).bind fun r0 =>
  bif (!r0.2) then
    some ((⟨#[]⟩ : ByteArray), false)
  else
    (impl_in n_2 (0 : Int) (8000 : Int)).bind fun r1 =>
    bif (!r1) then
      some ((⟨#[]⟩ : ByteArray), false)
    else
      k (.c0 key_0 n_2 r0.1 (⟨#[]⟩ : ByteArray) (0 : Int))
noncomputable def B_impl_Mask (impl_VarText : Int → Option (ByteArray × Bool)) (impl_in : Int → Int → Int → Option Bool) (impl_oneByte : Int → Option ByteArray) (impl_MacOf : ByteArray → ByteArray → Option ByteArray) (k : St_impl_Mask → Option (ByteArray × Bool)) : St_impl_Mask → Option (ByteArray × Bool)
  | .c0 key_0 n_2 v_8 out_10 i_11 =>
    bif (decide ((out_10.size : Int) < n_2)) then
      bif (decide (((⟨#[109]⟩ : ByteArray).size + v_8.size) ≤ 9223372036854775807)) then
      (impl_oneByte i_11).bind fun r0 =>
      bif (decide ((((⟨#[109]⟩ : ByteArray) ++ v_8).size + r0.size) ≤ 9223372036854775807)) then
      (impl_MacOf key_0 (((⟨#[109]⟩ : ByteArray) ++ v_8) ++ r0)).bind fun r1 =>
      bif (decide ((out_10.size + r1.size) ≤ 9223372036854775807)) then
      k (.c0 key_0 n_2 v_8 (out_10 ++ r1) (w64 (i_11 + 1)))
      else none
      else none
      else none
    else
      bif ((decide (0 ≤ n_2)) && (decide (n_2 ≤ (out_10.size : Int)))) then
      some ((out_10.extract 0 n_2.toNat), true)
      else none
noncomputable def L_impl_Mask : Nat → St_impl_Mask → Option (ByteArray × Bool)
  | 0, _ => none
  | m + 1, s => B_impl_Mask impl_VarText impl_in impl_oneByte impl_MacOf (L_impl_Mask m) s
noncomputable def impl_Mask (key_0 : ByteArray) (num_1 : Int) (n_2 : Int) : Option (ByteArray × Bool) := E_impl_Mask impl_VarText impl_in impl_oneByte impl_MacOf (L_impl_Mask gas) key_0 num_1 n_2
theorem e_impl_Mask (impl_VarText : Int → Option (ByteArray × Bool)) (impl_in : Int → Int → Int → Option Bool) (impl_oneByte : Int → Option ByteArray) (impl_MacOf : ByteArray → ByteArray → Option ByteArray) : EntryIs ctx PP 111 [] [(153, H_impl_VarText impl_VarText), (64, H_impl_in impl_in), (122, H_impl_oneByte impl_oneByte), (154, H_impl_MacOf impl_MacOf)] cv16 cv17 at_impl_Mask (fun k a => E_impl_Mask impl_VarText impl_in impl_oneByte impl_MacOf k a.1 a.2.1 a.2.2) := fun stop a => by kernel_rfl
theorem b_impl_Mask (impl_VarText : Int → Option (ByteArray × Bool)) (impl_in : Int → Int → Int → Option Bool) (impl_oneByte : Int → Option ByteArray) (impl_MacOf : ByteArray → ByteArray → Option ByteArray) : CutIs ctx PP 111 Tryd.f111 [] [(153, H_impl_VarText impl_VarText), (64, H_impl_in impl_in), (122, H_impl_oneByte impl_oneByte), (154, H_impl_MacOf impl_MacOf)] cv17 at_impl_Mask (B_impl_Mask impl_VarText impl_in impl_oneByte impl_MacOf) := fun stop s => by cases s <;> kernel_rfl
theorem i_impl_Mask : ∀ s s', at_impl_Mask s = at_impl_Mask s' → s = s' := by
  intro s s' h
  cases s with
  | c0 v0 v1 v2 v3 v4 => cases s' with
    | c0 w0 w1 w2 w3 w4 => cases h; rfl
theorem ok_impl_Mask : Tells ctx PP 111 cv16 cv17 (fun a => impl_Mask a.1 a.2.1 a.2.2) := fn_ok (hl_cons h_impl_VarText (hl_cons h_impl_in (hl_cons h_impl_oneByte (hl_cons h_impl_MacOf hl_nil)))) Tryd.func111 i_impl_Mask (fun _ => rfl) (fun _ _ => rfl) (b_impl_Mask impl_VarText impl_in impl_oneByte impl_MacOf) (e_impl_Mask impl_VarText impl_in impl_oneByte impl_MacOf) gas
noncomputable def H_impl_Mask {γ : Type} (F : ByteArray → Int → Int → Option (ByteArray × Bool)) : Hd ctx γ := hdl cv16.dec (fun a => F a.1 a.2.1 a.2.2) cv17.enc
theorem h_impl_Mask {γ : Type} : HdOk (γ := γ) PP 111 (H_impl_Mask impl_Mask) := hd_ok ok_impl_Mask
noncomputable def todo_impl_both_0 : List Go.Item := [.code (cAt (bodyOf Tryd.f112) [1, 1, 0, 1, 0, 0, 0]), .code (cAt (bodyOf Tryd.f112) [1, 1, 0, 1, 0, 0, 1]), .inLoop (cAt (bodyOf Tryd.f112) [1, 1, 0, 1, 0, 0]), .inBlock 0, .code (cAt (bodyOf Tryd.f112) [1, 1, 1])]
inductive St_impl_both where
  | c0 (b_1 : ByteArray) (v_10 : Int) (v_11 : Int) (out_5 : (List Int))
noncomputable def at_impl_both : St_impl_both → LI
  | .c0 b_1 v_10 v_11 out_5 => (todo_impl_both_0, [(1, [.one (.str b_1)]), (5, [.one (.own 368)]), (10, [.one (.int .i64 v_10)]), (11, [.one (.int .i64 v_11)])], [(368, .sl 5 out_5)])
noncomputable def E_impl_both  (k : St_impl_both → Option ByteArray) (a_0 : ByteArray) (b_1 : ByteArray) : Option ByteArray :=
  bif (decide (a_0.size ≤ 9223372036854775807)) then
  k (.c0 b_1 ((bytesOf a_0).length : Int) (0 : Int) (bytesOf a_0))
  else none
noncomputable def B_impl_both  (k : St_impl_both → Option ByteArray) : St_impl_both → Option ByteArray
  | .c0 b_1 v_10 v_11 out_5 =>
    bif (decide (v_11 < v_10)) then
      bif ((decide (0 ≤ v_11)) && (decide (v_11 < (out_5.length : Int)))) then
      bif ((decide (0 ≤ v_11)) && (decide (v_11 < (b_1.size : Int)))) then
      bif ((decide (0 ≤ v_11)) && (decide (v_11 < (out_5.length : Int)))) then
      k (.c0 b_1 v_10 (w64 (v_11 + 1)) (out_5.set v_11.toNat (w8 (((BitVec.toNat ((BitVec.ofInt (IntKind.bits IntKind.u8) (out_5.getD v_11.toNat 0)) ^^^ (BitVec.ofInt (IntKind.bits IntKind.u8) (bt b_1 v_11)))) : Nat) : Int))))
      else none
      else none
      else none
    else
      some (ofBytes out_5)
noncomputable def L_impl_both : Nat → St_impl_both → Option ByteArray
  | 0, _ => none
  | m + 1, s => B_impl_both  (L_impl_both m) s
noncomputable def impl_both (a_0 : ByteArray) (b_1 : ByteArray) : Option ByteArray := E_impl_both  (L_impl_both gas) a_0 b_1
theorem e_impl_both  : EntryIs ctx PP 112 [] [] cv15 cv1 at_impl_both (fun k a => E_impl_both  k a.1 a.2) := fun stop a => by kernel_rfl
theorem b_impl_both  : CutIs ctx PP 112 Tryd.f112 [] [] cv1 at_impl_both (B_impl_both ) := fun stop s => by cases s <;> kernel_rfl
theorem i_impl_both : ∀ s s', at_impl_both s = at_impl_both s' → s = s' := by
  intro s s' h
  cases s with
  | c0 v0 v1 v2 v3 => cases s' with
    | c0 w0 w1 w2 w3 => cases h; rfl
theorem ok_impl_both : Tells ctx PP 112 cv15 cv1 (fun a => impl_both a.1 a.2) := fn_ok hl_nil Tryd.func112 i_impl_both (fun _ => rfl) (fun _ _ => rfl) (b_impl_both ) (e_impl_both ) gas
noncomputable def H_impl_both {γ : Type} (F : ByteArray → ByteArray → Option ByteArray) : Hd ctx γ := hdl cv15.dec (fun a => F a.1 a.2) cv1.enc
theorem h_impl_both {γ : Type} : HdOk (γ := γ) PP 112 (H_impl_both impl_both) := hd_ok ok_impl_both
noncomputable def E_impl_tag (impl_varText : Int → Option ByteArray) (impl_MacOf : ByteArray → ByteArray → Option ByteArray) (key_0 : ByteArray) (num_1 : Int) (s_2 : ByteArray) : Option ByteArray :=
  (impl_varText num_1).bind fun r0 =>
  bif (decide (((⟨#[116]⟩ : ByteArray).size + r0.size) ≤ 9223372036854775807)) then
  bif (decide ((((⟨#[116]⟩ : ByteArray) ++ r0).size + s_2.size) ≤ 9223372036854775807)) then
  (impl_MacOf key_0 (((⟨#[116]⟩ : ByteArray) ++ r0) ++ s_2)).bind fun r1 =>
  bif ((decide ((0 : Int) ≤ (16 : Int))) && (decide (16 ≤ (r1.size : Int)))) then
  some (r1.extract 0 (16 : Int).toNat)
  else none
  else none
  else none
noncomputable def impl_tag (key_0 : ByteArray) (num_1 : Int) (s_2 : ByteArray) : Option ByteArray := E_impl_tag impl_varText impl_MacOf key_0 num_1 s_2
theorem e_impl_tag (impl_varText : Int → Option ByteArray) (impl_MacOf : ByteArray → ByteArray → Option ByteArray) : EntryIs0 ctx PP 113 [] [(114, H_impl_varText impl_varText), (154, H_impl_MacOf impl_MacOf)] cv18 cv1 (fun a => E_impl_tag impl_varText impl_MacOf a.1 a.2.1 a.2.2) := fun a => by kernel_rfl
theorem ok_impl_tag : Tells ctx PP 113 cv18 cv1 (fun a => impl_tag a.1 a.2.1 a.2.2) := fn_ok0 (hl_cons h_impl_varText (hl_cons h_impl_MacOf hl_nil)) Tryd.func113 (e_impl_tag impl_varText impl_MacOf)
noncomputable def H_impl_tag {γ : Type} (F : ByteArray → Int → ByteArray → Option ByteArray) : Hd ctx γ := hdl cv18.dec (fun a => F a.1 a.2.1 a.2.2) cv1.enc
theorem h_impl_tag {γ : Type} : HdOk (γ := γ) PP 113 (H_impl_tag impl_tag) := hd_ok ok_impl_tag
noncomputable def E_impl_LockText (impl_Mask : ByteArray → Int → Int → Option (ByteArray × Bool)) (impl_both : ByteArray → ByteArray → Option ByteArray) (impl_tag : ByteArray → Int → ByteArray → Option ByteArray) (key_0 : ByteArray) (num_1 : Int) (s_2 : ByteArray) : Option (ByteArray × Bool) :=
  (impl_Mask key_0 num_1 (s_2.size : Int)).bind fun r0 =>
  bif (!r0.2) then
    some ((⟨#[]⟩ : ByteArray), false)
  else
    (impl_both s_2 r0.1).bind fun r1 =>
    (impl_tag key_0 num_1 r1).bind fun r2 =>
    bif (decide ((r1.size + r2.size) ≤ 9223372036854775807)) then
    some ((r1 ++ r2), true)
    else none
noncomputable def impl_LockText (key_0 : ByteArray) (num_1 : Int) (s_2 : ByteArray) : Option (ByteArray × Bool) := E_impl_LockText impl_Mask impl_both impl_tag key_0 num_1 s_2
theorem e_impl_LockText (impl_Mask : ByteArray → Int → Int → Option (ByteArray × Bool)) (impl_both : ByteArray → ByteArray → Option ByteArray) (impl_tag : ByteArray → Int → ByteArray → Option ByteArray) : EntryIs0 ctx PP 52 [] [(111, H_impl_Mask impl_Mask), (112, H_impl_both impl_both), (113, H_impl_tag impl_tag)] cv18 cv17 (fun a => E_impl_LockText impl_Mask impl_both impl_tag a.1 a.2.1 a.2.2) := fun a => by kernel_rfl
theorem ok_impl_LockText : Tells ctx PP 52 cv18 cv17 (fun a => impl_LockText a.1 a.2.1 a.2.2) := fn_ok0 (hl_cons h_impl_Mask (hl_cons h_impl_both (hl_cons h_impl_tag hl_nil))) Tryd.func52 (e_impl_LockText impl_Mask impl_both impl_tag)
noncomputable def H_impl_LockText {γ : Type} (F : ByteArray → Int → ByteArray → Option (ByteArray × Bool)) : Hd ctx γ := hdl cv18.dec (fun a => F a.1 a.2.1 a.2.2) cv17.enc
theorem h_impl_LockText {γ : Type} : HdOk (γ := γ) PP 52 (H_impl_LockText impl_LockText) := hd_ok ok_impl_LockText
noncomputable def todo_impl_SumMore_0 : List Go.Item := [.code (cAt (bodyOf Tryd.f160) [1, 0, 1, 0, 0, 0, 0]), .code (cAt (bodyOf Tryd.f160) [1, 0, 1, 0, 0, 0, 1]), .code (cAt (bodyOf Tryd.f160) [1, 0, 1, 0, 0, 1]), .inLoop (cAt (bodyOf Tryd.f160) [1, 0, 1, 0, 0]), .inBlock 0, .code (cAt (bodyOf Tryd.f160) [1, 1])]
noncomputable def todo_impl_SumMore_1 : List Go.Item := [.code (cAt (bodyOf Tryd.f160) [1, 0, 1, 0, 0, 1, 0, 0, 1, 1, 0, 0, 0]), .code (cAt (bodyOf Tryd.f160) [1, 0, 1, 0, 0, 1, 0, 0, 1, 1, 0, 0, 1]), .inLoop (cAt (bodyOf Tryd.f160) [1, 0, 1, 0, 0, 1, 0, 0, 1, 1, 0, 0]), .inBlock 2, .inBlock 1, .code (cAt (bodyOf Tryd.f160) [1, 0, 1, 0, 0, 1, 1]), .inLoop (cAt (bodyOf Tryd.f160) [1, 0, 1, 0, 0]), .inBlock 0, .code (cAt (bodyOf Tryd.f160) [1, 1])]
inductive St_impl_SumMore where
  | c0 (sum_0 : Int) (text_1 : ByteArray) (i_5 : Int)
  | c1 (sum_0 : Int) (text_1 : ByteArray) (i_5 : Int) (v_19 : Int)
noncomputable def at_impl_SumMore : St_impl_SumMore → LI
  | .c0 sum_0 text_1 i_5 => (todo_impl_SumMore_0, [(0, [.one (.int .u32 sum_0)]), (1, [.one (.str text_1)]), (5, [.one (.int .i64 i_5)])], [])
  | .c1 sum_0 text_1 i_5 v_19 => (todo_impl_SumMore_1, [(0, [.one (.int .u32 sum_0)]), (1, [.one (.str text_1)]), (5, [.one (.int .i64 i_5)]), (19, [.one (.int .i64 v_19)])], [])
noncomputable def E_impl_SumMore  (k : St_impl_SumMore → Option Int) (sum_0 : Int) (text_1 : ByteArray) : Option Int :=
  k (.c0 sum_0 text_1 (0 : Int))
noncomputable def B_impl_SumMore  (k : St_impl_SumMore → Option Int) : St_impl_SumMore → Option Int
  | .c0 sum_0 text_1 i_5 =>
    bif (decide (i_5 < (text_1.size : Int))) then
      bif ((decide (0 ≤ i_5)) && (decide (i_5 < (text_1.size : Int)))) then
      k (.c1 (w32 (((BitVec.toNat ((BitVec.ofInt (IntKind.bits IntKind.u32) sum_0) ^^^ (BitVec.ofInt (IntKind.bits IntKind.u32) (w32 (bt text_1 i_5))))) : Nat) : Int)) text_1 i_5 (0 : Int))
      else none
    else
      some sum_0
  | .c1 sum_0 text_1 i_5 v_19 =>
    bif (decide (v_19 < 8)) then
      bif ((w32 (((BitVec.toNat ((BitVec.ofInt (IntKind.bits IntKind.u32) sum_0) &&& (BitVec.ofInt (IntKind.bits IntKind.u32) (1 : Int)))) : Nat) : Int)) == 1) then
        k (.c1 (w32 (((BitVec.toNat ((BitVec.ofInt (IntKind.bits IntKind.u32) (Int.fdiv sum_0 (2 ^ (Min.min (1 : Int).toNat (IntKind.bits IntKind.u32))))) ^^^ (BitVec.ofInt (IntKind.bits IntKind.u32) (3558460437 : Int)))) : Nat) : Int)) text_1 i_5 (w64 (v_19 + 1)))
      else
        k (.c1 (Int.fdiv sum_0 (2 ^ (Min.min (1 : Int).toNat (IntKind.bits IntKind.u32)))) text_1 i_5 (w64 (v_19 + 1)))
    else
      k (.c0 sum_0 text_1 (w64 (i_5 + 1)))
noncomputable def L_impl_SumMore : Nat → St_impl_SumMore → Option Int
  | 0, _ => none
  | m + 1, s => B_impl_SumMore  (L_impl_SumMore m) s
noncomputable def impl_SumMore (sum_0 : Int) (text_1 : ByteArray) : Option Int := E_impl_SumMore  (L_impl_SumMore gas) sum_0 text_1
theorem e_impl_SumMore  : EntryIs ctx PP 160 [] [] cv29 cv9 at_impl_SumMore (fun k a => E_impl_SumMore  k a.1 a.2) := fun stop a => by kernel_rfl
theorem b_impl_SumMore  : CutIs ctx PP 160 Tryd.f160 [] [] cv9 at_impl_SumMore (B_impl_SumMore ) := fun stop s => by cases s <;> kernel_rfl
theorem i_impl_SumMore : ∀ s s', at_impl_SumMore s = at_impl_SumMore s' → s = s' := by
  intro s s' h
  cases s with
  | c0 v0 v1 v2 => cases s' with
    | c0 w0 w1 w2 => cases h; rfl
    | c1 w0 w1 w2 w3 => exact (region_ne 2 6 h (by kernel_rfl) (by kernel_rfl) rfl).elim
  | c1 v0 v1 v2 v3 => cases s' with
    | c0 w0 w1 w2 => exact (region_ne 6 2 h (by kernel_rfl) (by kernel_rfl) rfl).elim
    | c1 w0 w1 w2 w3 => cases h; rfl
theorem ok_impl_SumMore : Tells ctx PP 160 cv29 cv9 (fun a => impl_SumMore a.1 a.2) := fn_ok hl_nil Tryd.func160 i_impl_SumMore (fun _ => rfl) (fun _ _ => rfl) (b_impl_SumMore ) (e_impl_SumMore ) gas
noncomputable def H_impl_SumMore {γ : Type} (F : Int → ByteArray → Option Int) : Hd ctx γ := hdl cv29.dec (fun a => F a.1 a.2) cv9.enc
theorem h_impl_SumMore {γ : Type} : HdOk (γ := γ) PP 160 (H_impl_SumMore impl_SumMore) := hd_ok ok_impl_SumMore
noncomputable def E_impl_SumOf (impl_SumMore : Int → ByteArray → Option Int) (text_0 : ByteArray) : Option Int :=
  (impl_SumMore (4294967295 : Int) text_0).bind fun r0 =>
  some r0
noncomputable def impl_SumOf (text_0 : ByteArray) : Option Int := E_impl_SumOf impl_SumMore text_0
theorem e_impl_SumOf (impl_SumMore : Int → ByteArray → Option Int) : EntryIs0 ctx PP 124 [] [(160, H_impl_SumMore impl_SumMore)] cv1 cv9 (fun a => E_impl_SumOf impl_SumMore a) := fun a => by kernel_rfl
theorem ok_impl_SumOf : Tells ctx PP 124 cv1 cv9 (fun a => impl_SumOf a) := fn_ok0 (hl_cons h_impl_SumMore hl_nil) Tryd.func124 (e_impl_SumOf impl_SumMore)
noncomputable def H_impl_SumOf {γ : Type} (F : ByteArray → Option Int) : Hd ctx γ := hdl cv1.dec (fun a => F a) cv9.enc
theorem h_impl_SumOf {γ : Type} : HdOk (γ := γ) PP 124 (H_impl_SumOf impl_SumOf) := hd_ok ok_impl_SumOf
noncomputable def E_impl_Frame (impl_in : Int → Int → Int → Option Bool) (impl_varText : Int → Option ByteArray) (impl_SumOf : ByteArray → Option Int) (impl_fourBytes : Int → Option ByteArray) (text_0 : ByteArray) : Option (ByteArray × Bool) :=
  (impl_in (text_0.size : Int) (1 : Int) (9000 : Int)).bind fun r0 =>
  bif (!r0) then
    some ((⟨#[]⟩ : ByteArray), false)
  else
    (impl_varText (text_0.size : Int)).bind fun r1 =>
    (impl_SumOf text_0).bind fun r2 =>
    (impl_fourBytes r2).bind fun r3 =>
    bif (decide ((r1.size + r3.size) ≤ 9223372036854775807)) then
    bif (decide (((r1 ++ r3).size + text_0.size) ≤ 9223372036854775807)) then
    some (((r1 ++ r3) ++ text_0), true)
    else none
    else none
noncomputable def impl_Frame (text_0 : ByteArray) : Option (ByteArray × Bool) := E_impl_Frame impl_in impl_varText impl_SumOf impl_fourBytes text_0
theorem e_impl_Frame (impl_in : Int → Int → Int → Option Bool) (impl_varText : Int → Option ByteArray) (impl_SumOf : ByteArray → Option Int) (impl_fourBytes : Int → Option ByteArray) : EntryIs0 ctx PP 65 [] [(64, H_impl_in impl_in), (114, H_impl_varText impl_varText), (124, H_impl_SumOf impl_SumOf), (123, H_impl_fourBytes impl_fourBytes)] cv1 cv17 (fun a => E_impl_Frame impl_in impl_varText impl_SumOf impl_fourBytes a) := fun a => by kernel_rfl
theorem ok_impl_Frame : Tells ctx PP 65 cv1 cv17 (fun a => impl_Frame a) := fn_ok0 (hl_cons h_impl_in (hl_cons h_impl_varText (hl_cons h_impl_SumOf (hl_cons h_impl_fourBytes hl_nil)))) Tryd.func65 (e_impl_Frame impl_in impl_varText impl_SumOf impl_fourBytes)
noncomputable def H_impl_Frame {γ : Type} (F : ByteArray → Option (ByteArray × Bool)) : Hd ctx γ := hdl cv1.dec (fun a => F a) cv17.enc
theorem h_impl_Frame {γ : Type} : HdOk (γ := γ) PP 65 (H_impl_Frame impl_Frame) := hd_ok ok_impl_Frame
noncomputable def E_impl_BookActs (impl_RecText : SRec → Option (ByteArray × Bool)) (impl_in : Int → Int → Int → Option Bool) (impl_LockText : ByteArray → Int → ByteArray → Option (ByteArray × Bool)) (impl_Frame : ByteArray → Option (ByteArray × Bool)) (key_0 : ByteArray) (count_1 : Int) (r_2 : SRec) : Option ((List SAct) × Bool) :=
  (impl_RecText r_2).bind fun r0 =>
  bif (!r0.2) then
    some ([], false)
  else
    (impl_in count_1 (0 : Int) (10000 : Int)).bind fun r1 =>
    bif (!r1) then
      some ([], false)
    else
      (impl_LockText key_0 (w64 (count_1 + 1)) r0.1).bind fun r2 =>
      (impl_Frame r2.1).bind fun r3 =>
      bif (!r2.2) then
        some ([], false)
      else
        bif (!r3.2) then
          some ([], false)
        else
          some ([(⟨(1 : Int), (⟨#[98, 111, 111, 107]⟩ : ByteArray), r3.1, (⟨#[]⟩ : ByteArray)⟩ : SAct), (⟨(2 : Int), (⟨#[98, 111, 111, 107]⟩ : ByteArray), (⟨#[]⟩ : ByteArray), (⟨#[]⟩ : ByteArray)⟩ : SAct)], true)
noncomputable def impl_BookActs (key_0 : ByteArray) (count_1 : Int) (r_2 : SRec) : Option ((List SAct) × Bool) := E_impl_BookActs impl_RecText impl_in impl_LockText impl_Frame key_0 count_1 r_2
theorem e_impl_BookActs (impl_RecText : SRec → Option (ByteArray × Bool)) (impl_in : Int → Int → Int → Option Bool) (impl_LockText : ByteArray → Int → ByteArray → Option (ByteArray × Bool)) (impl_Frame : ByteArray → Option (ByteArray × Bool)) : EntryIs0 ctx PP 19 [] [(63, H_impl_RecText impl_RecText), (64, H_impl_in impl_in), (52, H_impl_LockText impl_LockText), (65, H_impl_Frame impl_Frame)] cv30 cv31 (fun a => E_impl_BookActs impl_RecText impl_in impl_LockText impl_Frame a.1 a.2.1 a.2.2) := fun a => by kernel_rfl
theorem ok_impl_BookActs : Tells ctx PP 19 cv30 cv31 (fun a => impl_BookActs a.1 a.2.1 a.2.2) := fn_ok0 (hl_cons h_impl_RecText (hl_cons h_impl_in (hl_cons h_impl_LockText (hl_cons h_impl_Frame hl_nil)))) Tryd.func19 (e_impl_BookActs impl_RecText impl_in impl_LockText impl_Frame)
noncomputable def H_impl_BookActs {γ : Type} (F : ByteArray → Int → SRec → Option ((List SAct) × Bool)) : Hd ctx γ := hdl cv30.dec (fun a => F a.1 a.2.1 a.2.2) cv31.enc
theorem h_impl_BookActs {γ : Type} : HdOk (γ := γ) PP 19 (H_impl_BookActs impl_BookActs) := hd_ok ok_impl_BookActs
noncomputable def E_laws_eqAct  (a_0 : SAct) (b_1 : SAct) : Option Bool :=
  bif (a_0.fKind != b_1.fKind) then
    some false
  else
    bif (!((ByteArray.toList a_0.fName) == (ByteArray.toList b_1.fName))) then
      some false
    else
      bif (!((ByteArray.toList a_0.fText) == (ByteArray.toList b_1.fText))) then
        some false
      else
        bif (!((ByteArray.toList a_0.fTo) == (ByteArray.toList b_1.fTo))) then
          some false
        else
          some true
noncomputable def laws_eqAct (a_0 : SAct) (b_1 : SAct) : Option Bool := E_laws_eqAct  a_0 b_1
theorem e_laws_eqAct  : EntryIs0 ctx PP 66 [] [] cv32 cv3 (fun a => E_laws_eqAct  a.1 a.2) := fun a => by kernel_rfl
theorem ok_laws_eqAct : Tells ctx PP 66 cv32 cv3 (fun a => laws_eqAct a.1 a.2) := fn_ok0 hl_nil Tryd.func66 (e_laws_eqAct )
noncomputable def H_laws_eqAct {γ : Type} (F : SAct → SAct → Option Bool) : Hd ctx γ := hdl cv32.dec (fun a => F a.1 a.2) cv3.enc
theorem h_laws_eqAct {γ : Type} : HdOk (γ := γ) PP 66 (H_laws_eqAct laws_eqAct) := hd_ok ok_laws_eqAct
noncomputable def todo_laws_eqActS_0 : List Go.Item := [.code (cAt (bodyOf Tryd.f20) [1, 1, 0, 1, 0, 0, 0, 0]), .code (cAt (bodyOf Tryd.f20) [1, 1, 0, 1, 0, 0, 0, 1]), .code (cAt (bodyOf Tryd.f20) [1, 1, 0, 1, 0, 0, 1]), .inLoop (cAt (bodyOf Tryd.f20) [1, 1, 0, 1, 0, 0]), .inBlock 0, .code (cAt (bodyOf Tryd.f20) [1, 1, 1])]
inductive St_laws_eqActS where
  | c0 (a_0 : (List SAct)) (b_1 : (List SAct)) (i_5 : Int)
noncomputable def at_laws_eqActS : St_laws_eqActS → LI
  | .c0 a_0 b_1 i_5 => (todo_laws_eqActS_0, [(0, [.one (.rsl 99 a_0)]), (1, [.one (.rsl 99 b_1)]), (5, [.one (.int .i64 i_5)])], [])
noncomputable def E_laws_eqActS (laws_eqAct : SAct → SAct → Option Bool) (k : St_laws_eqActS → Option Bool) (a_0 : (List SAct)) (b_1 : (List SAct)) : Option Bool :=
  bif ((a_0.length : Int) != (b_1.length : Int)) then
    some false
  else
    k (.c0 a_0 b_1 (0 : Int))
noncomputable def B_laws_eqActS (laws_eqAct : SAct → SAct → Option Bool) (k : St_laws_eqActS → Option Bool) : St_laws_eqActS → Option Bool
  | .c0 a_0 b_1 i_5 =>
    bif (decide (i_5 < (a_0.length : Int))) then
      bif ((decide (0 ≤ i_5)) && (decide (i_5 < (a_0.length : Int)))) then
      bif ((decide (0 ≤ i_5)) && (decide (i_5 < (b_1.length : Int)))) then
      (laws_eqAct (a_0.getD i_5.toNat (⟨(0 : Int), (⟨#[]⟩ : ByteArray), (⟨#[]⟩ : ByteArray), (⟨#[]⟩ : ByteArray)⟩ : SAct)) (b_1.getD i_5.toNat (⟨(0 : Int), (⟨#[]⟩ : ByteArray), (⟨#[]⟩ : ByteArray), (⟨#[]⟩ : ByteArray)⟩ : SAct))).bind fun r0 =>
      bif (!r0) then
        some false
      else
        k (.c0 a_0 b_1 (w64 (i_5 + 1)))
      else none
      else none
    else
      some true
noncomputable def L_laws_eqActS : Nat → St_laws_eqActS → Option Bool
  | 0, _ => none
  | m + 1, s => B_laws_eqActS laws_eqAct (L_laws_eqActS m) s
noncomputable def laws_eqActS (a_0 : (List SAct)) (b_1 : (List SAct)) : Option Bool := E_laws_eqActS laws_eqAct (L_laws_eqActS gas) a_0 b_1
theorem e_laws_eqActS (laws_eqAct : SAct → SAct → Option Bool) : EntryIs ctx PP 20 [] [(66, H_laws_eqAct laws_eqAct)] cv33 cv3 at_laws_eqActS (fun k a => E_laws_eqActS laws_eqAct k a.1 a.2) := fun stop a => by kernel_rfl
theorem b_laws_eqActS (laws_eqAct : SAct → SAct → Option Bool) : CutIs ctx PP 20 Tryd.f20 [] [(66, H_laws_eqAct laws_eqAct)] cv3 at_laws_eqActS (B_laws_eqActS laws_eqAct) := fun stop s => by cases s <;> kernel_rfl
theorem i_laws_eqActS : ∀ s s', at_laws_eqActS s = at_laws_eqActS s' → s = s' := by
  intro s s' h
  cases s with
  | c0 v0 v1 v2 => cases s' with
    | c0 w0 w1 w2 => cases h; rfl
theorem ok_laws_eqActS : Tells ctx PP 20 cv33 cv3 (fun a => laws_eqActS a.1 a.2) := fn_ok (hl_cons h_laws_eqAct hl_nil) Tryd.func20 i_laws_eqActS (fun _ => rfl) (fun _ _ => rfl) (b_laws_eqActS laws_eqAct) (e_laws_eqActS laws_eqAct) gas
noncomputable def H_laws_eqActS {γ : Type} (F : (List SAct) → (List SAct) → Option Bool) : Hd ctx γ := hdl cv33.dec (fun a => F a.1 a.2) cv3.enc
theorem h_laws_eqActS {γ : Type} : HdOk (γ := γ) PP 20 (H_laws_eqActS laws_eqActS) := hd_ok ok_laws_eqActS
noncomputable def todo_laws_markText_0 : List Go.Item := [.code (cAt (bodyOf Tryd.f67) [1, 1, 1, 0, 0, 0, 0, 0]), .code (cAt (bodyOf Tryd.f67) [1, 1, 1, 0, 0, 0, 0, 1]), .code (cAt (bodyOf Tryd.f67) [1, 1, 1, 0, 0, 0, 1]), .inLoop (cAt (bodyOf Tryd.f67) [1, 1, 1, 0, 0, 0]), .inBlock 0, .code (cAt (bodyOf Tryd.f67) [1, 1, 1, 1])]
inductive St_laws_markText where
  | c0 (k_0 : Int) (out_3 : ByteArray)
noncomputable def at_laws_markText : St_laws_markText → LI
  | .c0 k_0 out_3 => (todo_laws_markText_0, [(0, [.one (.int .i64 k_0)]), (3, [.one (.str out_3)])], [])
noncomputable def E_laws_markText  (k : St_laws_markText → Option ByteArray) (k_0 : Int) : Option ByteArray :=
  bif (decide (k_0 ≤ 0)) then
    some (⟨#[109, 48]⟩ : ByteArray)
  else
    k (.c0 k_0 (⟨#[]⟩ : ByteArray))
noncomputable def B_laws_markText  (k : St_laws_markText → Option ByteArray) : St_laws_markText → Option ByteArray
  | .c0 k_0 out_3 =>
    bif (decide (k_0 > 0)) then
      bif (decide (((ofBytes [(w8 (w64 (48 + (k_0.tmod 10))))]).size + out_3.size) ≤ 9223372036854775807)) then
      k (.c0 (w64 (k_0.tdiv 10)) ((ofBytes [(w8 (w64 (48 + (k_0.tmod 10))))]) ++ out_3))
      else none
    else
      bif (decide (((⟨#[109]⟩ : ByteArray).size + out_3.size) ≤ 9223372036854775807)) then
      some ((⟨#[109]⟩ : ByteArray) ++ out_3)
      else none
noncomputable def L_laws_markText : Nat → St_laws_markText → Option ByteArray
  | 0, _ => none
  | m + 1, s => B_laws_markText  (L_laws_markText m) s
noncomputable def laws_markText (k_0 : Int) : Option ByteArray := E_laws_markText  (L_laws_markText gas) k_0
theorem e_laws_markText  : EntryIs ctx PP 67 [] [] cv0 cv1 at_laws_markText (fun k a => E_laws_markText  k a) := fun stop a => by kernel_rfl
theorem b_laws_markText  : CutIs ctx PP 67 Tryd.f67 [] [] cv1 at_laws_markText (B_laws_markText ) := fun stop s => by cases s <;> kernel_rfl
theorem i_laws_markText : ∀ s s', at_laws_markText s = at_laws_markText s' → s = s' := by
  intro s s' h
  cases s with
  | c0 v0 v1 => cases s' with
    | c0 w0 w1 => cases h; rfl
theorem ok_laws_markText : Tells ctx PP 67 cv0 cv1 (fun a => laws_markText a) := fn_ok hl_nil Tryd.func67 i_laws_markText (fun _ => rfl) (fun _ _ => rfl) (b_laws_markText ) (e_laws_markText ) gas
noncomputable def H_laws_markText {γ : Type} (F : Int → Option ByteArray) : Hd ctx γ := hdl cv0.dec (fun a => F a) cv1.enc
theorem h_laws_markText {γ : Type} : HdOk (γ := γ) PP 67 (H_laws_markText laws_markText) := hd_ok ok_laws_markText
noncomputable def todo_laws_markActS_0 : List Go.Item := [.code (cAt (bodyOf Tryd.f21) [1, 0, 1, 0, 0, 0, 0]), .code (cAt (bodyOf Tryd.f21) [1, 0, 1, 0, 0, 0, 1]), .code (cAt (bodyOf Tryd.f21) [1, 0, 1, 0, 0, 1]), .inLoop (cAt (bodyOf Tryd.f21) [1, 0, 1, 0, 0]), .inBlock 0, .code (cAt (bodyOf Tryd.f21) [1, 1])]
noncomputable def todo_laws_markActS_1 : List Go.Item := [.code (cAt (bodyOf Tryd.f21) [1, 0, 1, 0, 0, 1, 0, 0, 1, 1, 0]), .code (cAt (bodyOf Tryd.f21) [1, 0, 1, 0, 0, 1, 0, 0, 1, 1, 1]), .inBlock 1, .code (cAt (bodyOf Tryd.f21) [1, 0, 1, 0, 0, 1, 1]), .inLoop (cAt (bodyOf Tryd.f21) [1, 0, 1, 0, 0]), .inBlock 0, .code (cAt (bodyOf Tryd.f21) [1, 1])]
noncomputable def todo_laws_markActS_2 : List Go.Item := [.code (cAt (bodyOf Tryd.f21) [1, 0, 1, 0, 0, 1, 0, 0, 1, 1, 1, 1, 0]), .code (cAt (bodyOf Tryd.f21) [1, 0, 1, 0, 0, 1, 0, 0, 1, 1, 1, 1, 1]), .inBlock 1, .code (cAt (bodyOf Tryd.f21) [1, 0, 1, 0, 0, 1, 1]), .inLoop (cAt (bodyOf Tryd.f21) [1, 0, 1, 0, 0]), .inBlock 0, .code (cAt (bodyOf Tryd.f21) [1, 1])]
noncomputable def todo_laws_markActS_3 : List Go.Item := [.code (cAt (bodyOf Tryd.f21) [1, 0, 1, 0, 0, 1, 0, 0, 1, 1, 1, 1, 1, 1, 0]), .code (cAt (bodyOf Tryd.f21) [1, 0, 1, 0, 0, 1, 0, 0, 1, 1, 1, 1, 1, 1, 1]), .inBlock 1, .code (cAt (bodyOf Tryd.f21) [1, 0, 1, 0, 0, 1, 1]), .inLoop (cAt (bodyOf Tryd.f21) [1, 0, 1, 0, 0]), .inBlock 0, .code (cAt (bodyOf Tryd.f21) [1, 1])]
inductive St_laws_markActS where
  | c0 (k_1 : Int) (i_5 : Int) (a_0r1 : (List SAct))
  | c1 (k_1 : Int) (i_5 : Int) (a_0r1 : (List SAct))
  | c2 (k_1 : Int) (i_5 : Int) (a_0r1 : (List SAct))
  | c3 (k_1 : Int) (i_5 : Int) (a_0r1 : (List SAct))
noncomputable def at_laws_markActS : St_laws_markActS → LI
  | .c0 k_1 i_5 a_0r1 => (todo_laws_markActS_0, [(0, [.one (.own 1)]), (1, [.one (.int .i64 k_1)]), (5, [.one (.int .i64 i_5)])], [(1, .io 99 a_0r1)])
  | .c1 k_1 i_5 a_0r1 => (todo_laws_markActS_1, [(0, [.one (.own 1)]), (1, [.one (.int .i64 k_1)]), (5, [.one (.int .i64 i_5)])], [(1, .io 99 a_0r1)])
  | .c2 k_1 i_5 a_0r1 => (todo_laws_markActS_2, [(0, [.one (.own 1)]), (1, [.one (.int .i64 k_1)]), (5, [.one (.int .i64 i_5)])], [(1, .io 99 a_0r1)])
  | .c3 k_1 i_5 a_0r1 => (todo_laws_markActS_3, [(0, [.one (.own 1)]), (1, [.one (.int .i64 k_1)]), (5, [.one (.int .i64 i_5)])], [(1, .io 99 a_0r1)])
noncomputable def E_laws_markActS (laws_markText : Int → Option ByteArray) (k : St_laws_markActS → Option (Int × (List SAct))) (a_0 : (List SAct)) (k_1 : Int) : Option (Int × (List SAct)) :=
  k (.c0 k_1 (0 : Int) a_0)
noncomputable def B_laws_markActS (laws_markText : Int → Option ByteArray) (k : St_laws_markActS → Option (Int × (List SAct))) : St_laws_markActS → Option (Int × (List SAct))
  | .c0 k_1 i_5 a_0r1 =>
    bif (decide (i_5 < (a_0r1.length : Int))) then
      bif ((decide (0 ≤ i_5)) && (decide (i_5 < (a_0r1.length : Int)))) then
      k (.c1 (w64 (k_1 + 1)) i_5 (a_0r1.set i_5.toNat (⟨k_1, (a_0r1.getD i_5.toNat (⟨(0 : Int), (⟨#[]⟩ : ByteArray), (⟨#[]⟩ : ByteArray), (⟨#[]⟩ : ByteArray)⟩ : SAct)).fName, (a_0r1.getD i_5.toNat (⟨(0 : Int), (⟨#[]⟩ : ByteArray), (⟨#[]⟩ : ByteArray), (⟨#[]⟩ : ByteArray)⟩ : SAct)).fText, (a_0r1.getD i_5.toNat (⟨(0 : Int), (⟨#[]⟩ : ByteArray), (⟨#[]⟩ : ByteArray), (⟨#[]⟩ : ByteArray)⟩ : SAct)).fTo⟩ : SAct)))
      else none
    else
      some (k_1, a_0r1)
  | .c1 k_1 i_5 a_0r1 =>
    (laws_markText k_1).bind fun r0 =>
    bif ((decide (0 ≤ i_5)) && (decide (i_5 < (a_0r1.length : Int)))) then
    k (.c2 (w64 (k_1 + 1)) i_5 (a_0r1.set i_5.toNat (⟨(a_0r1.getD i_5.toNat (⟨(0 : Int), (⟨#[]⟩ : ByteArray), (⟨#[]⟩ : ByteArray), (⟨#[]⟩ : ByteArray)⟩ : SAct)).fKind, r0, (a_0r1.getD i_5.toNat (⟨(0 : Int), (⟨#[]⟩ : ByteArray), (⟨#[]⟩ : ByteArray), (⟨#[]⟩ : ByteArray)⟩ : SAct)).fText, (a_0r1.getD i_5.toNat (⟨(0 : Int), (⟨#[]⟩ : ByteArray), (⟨#[]⟩ : ByteArray), (⟨#[]⟩ : ByteArray)⟩ : SAct)).fTo⟩ : SAct)))
    else none
  | .c2 k_1 i_5 a_0r1 =>
    (laws_markText k_1).bind fun r0 =>
    bif ((decide (0 ≤ i_5)) && (decide (i_5 < (a_0r1.length : Int)))) then
    k (.c3 (w64 (k_1 + 1)) i_5 (a_0r1.set i_5.toNat (⟨(a_0r1.getD i_5.toNat (⟨(0 : Int), (⟨#[]⟩ : ByteArray), (⟨#[]⟩ : ByteArray), (⟨#[]⟩ : ByteArray)⟩ : SAct)).fKind, (a_0r1.getD i_5.toNat (⟨(0 : Int), (⟨#[]⟩ : ByteArray), (⟨#[]⟩ : ByteArray), (⟨#[]⟩ : ByteArray)⟩ : SAct)).fName, r0, (a_0r1.getD i_5.toNat (⟨(0 : Int), (⟨#[]⟩ : ByteArray), (⟨#[]⟩ : ByteArray), (⟨#[]⟩ : ByteArray)⟩ : SAct)).fTo⟩ : SAct)))
    else none
  | .c3 k_1 i_5 a_0r1 =>
    (laws_markText k_1).bind fun r0 =>
    bif ((decide (0 ≤ i_5)) && (decide (i_5 < (a_0r1.length : Int)))) then
    k (.c0 (w64 (k_1 + 1)) (w64 (i_5 + 1)) (a_0r1.set i_5.toNat (⟨(a_0r1.getD i_5.toNat (⟨(0 : Int), (⟨#[]⟩ : ByteArray), (⟨#[]⟩ : ByteArray), (⟨#[]⟩ : ByteArray)⟩ : SAct)).fKind, (a_0r1.getD i_5.toNat (⟨(0 : Int), (⟨#[]⟩ : ByteArray), (⟨#[]⟩ : ByteArray), (⟨#[]⟩ : ByteArray)⟩ : SAct)).fName, (a_0r1.getD i_5.toNat (⟨(0 : Int), (⟨#[]⟩ : ByteArray), (⟨#[]⟩ : ByteArray), (⟨#[]⟩ : ByteArray)⟩ : SAct)).fText, r0⟩ : SAct)))
    else none
noncomputable def L_laws_markActS : Nat → St_laws_markActS → Option (Int × (List SAct))
  | 0, _ => none
  | m + 1, s => B_laws_markActS laws_markText (L_laws_markActS m) s
noncomputable def laws_markActS (a_0 : (List SAct)) (k_1 : Int) : Option (Int × (List SAct)) := E_laws_markActS laws_markText (L_laws_markActS gas) a_0 k_1
theorem e_laws_markActS (laws_markText : Int → Option ByteArray) : EntryIs ctx PP 21 [1] [(67, H_laws_markText laws_markText)] cv34 cv35 at_laws_markActS (fun k a => E_laws_markActS laws_markText k a.1 a.2) := fun stop a => by kernel_rfl
theorem b_laws_markActS (laws_markText : Int → Option ByteArray) : CutIs ctx PP 21 Tryd.f21 [1] [(67, H_laws_markText laws_markText)] cv35 at_laws_markActS (B_laws_markActS laws_markText) := fun stop s => by cases s <;> kernel_rfl
theorem i_laws_markActS : ∀ s s', at_laws_markActS s = at_laws_markActS s' → s = s' := by
  intro s s' h
  cases s with
  | c0 v0 v1 v2 => cases s' with
    | c0 w0 w1 w2 => cases h; rfl
    | c1 w0 w1 w2 => exact (region_ne 2 6 h (by kernel_rfl) (by kernel_rfl) rfl).elim
    | c2 w0 w1 w2 => exact (region_ne 2 8 h (by kernel_rfl) (by kernel_rfl) rfl).elim
    | c3 w0 w1 w2 => exact (region_ne 2 10 h (by kernel_rfl) (by kernel_rfl) rfl).elim
  | c1 v0 v1 v2 => cases s' with
    | c0 w0 w1 w2 => exact (region_ne 6 2 h (by kernel_rfl) (by kernel_rfl) rfl).elim
    | c1 w0 w1 w2 => cases h; rfl
    | c2 w0 w1 w2 => exact (region_ne 6 8 h (by kernel_rfl) (by kernel_rfl) rfl).elim
    | c3 w0 w1 w2 => exact (region_ne 6 10 h (by kernel_rfl) (by kernel_rfl) rfl).elim
  | c2 v0 v1 v2 => cases s' with
    | c0 w0 w1 w2 => exact (region_ne 8 2 h (by kernel_rfl) (by kernel_rfl) rfl).elim
    | c1 w0 w1 w2 => exact (region_ne 8 6 h (by kernel_rfl) (by kernel_rfl) rfl).elim
    | c2 w0 w1 w2 => cases h; rfl
    | c3 w0 w1 w2 => exact (region_ne 8 10 h (by kernel_rfl) (by kernel_rfl) rfl).elim
  | c3 v0 v1 v2 => cases s' with
    | c0 w0 w1 w2 => exact (region_ne 10 2 h (by kernel_rfl) (by kernel_rfl) rfl).elim
    | c1 w0 w1 w2 => exact (region_ne 10 6 h (by kernel_rfl) (by kernel_rfl) rfl).elim
    | c2 w0 w1 w2 => exact (region_ne 10 8 h (by kernel_rfl) (by kernel_rfl) rfl).elim
    | c3 w0 w1 w2 => cases h; rfl
theorem ok_laws_markActS : Tells ctx PP 21 cv34 cv35 (fun a => laws_markActS a.1 a.2) := fn_ok (hl_cons h_laws_markText hl_nil) Tryd.func21 i_laws_markActS (fun _ => rfl) (fun _ _ => rfl) (b_laws_markActS laws_markText) (e_laws_markActS laws_markText) gas
noncomputable def H_laws_markActS {γ : Type} (F : (List SAct) → Int → Option (Int × (List SAct))) : Hd ctx γ := hdl cv34.dec (fun a => F a.1 a.2) cv35.enc
theorem h_laws_markActS {γ : Type} : HdOk (γ := γ) PP 21 (H_laws_markActS laws_markActS) := hd_ok ok_laws_markActS
noncomputable def todo_laws_heldActS_0 : List Go.Item := [.code (cAt (bodyOf Tryd.f22) [1, 0, 1, 0, 0, 0, 0]), .code (cAt (bodyOf Tryd.f22) [1, 0, 1, 0, 0, 0, 1]), .code (cAt (bodyOf Tryd.f22) [1, 0, 1, 0, 0, 1]), .inLoop (cAt (bodyOf Tryd.f22) [1, 0, 1, 0, 0]), .inBlock 0, .code (cAt (bodyOf Tryd.f22) [1, 1])]
inductive St_laws_heldActS where
  | c0 (a_0 : (List SAct)) (k_1 : Int) (i_5 : Int)
noncomputable def at_laws_heldActS : St_laws_heldActS → LI
  | .c0 a_0 k_1 i_5 => (todo_laws_heldActS_0, [(0, [.one (.rsl 99 a_0)]), (1, [.one (.int .i64 k_1)]), (5, [.one (.int .i64 i_5)])], [])
noncomputable def E_laws_heldActS (laws_markText : Int → Option ByteArray) (k : St_laws_heldActS → Option Int) (a_0 : (List SAct)) (k_1 : Int) : Option Int :=
  k (.c0 a_0 k_1 (0 : Int))
noncomputable def B_laws_heldActS (laws_markText : Int → Option ByteArray) (k : St_laws_heldActS → Option Int) : St_laws_heldActS → Option Int
  | .c0 a_0 k_1 i_5 =>
    bif (decide (i_5 < (a_0.length : Int))) then
      bif ((decide (0 ≤ i_5)) && (decide (i_5 < (a_0.length : Int)))) then
      bif ((a_0.getD i_5.toNat (⟨(0 : Int), (⟨#[]⟩ : ByteArray), (⟨#[]⟩ : ByteArray), (⟨#[]⟩ : ByteArray)⟩ : SAct)).fKind != k_1) then
        some (-(1 : Int))
      else
        bif ((decide (0 ≤ i_5)) && (decide (i_5 < (a_0.length : Int)))) then
        (laws_markText (w64 (k_1 + 1))).bind fun r0 =>
        bif (!((ByteArray.toList (a_0.getD i_5.toNat (⟨(0 : Int), (⟨#[]⟩ : ByteArray), (⟨#[]⟩ : ByteArray), (⟨#[]⟩ : ByteArray)⟩ : SAct)).fName) == (ByteArray.toList r0))) then
          some (-(1 : Int))
        else
          bif ((decide (0 ≤ i_5)) && (decide (i_5 < (a_0.length : Int)))) then
          (laws_markText (w64 ((w64 (k_1 + 1)) + 1))).bind fun r1 =>
          bif (!((ByteArray.toList (a_0.getD i_5.toNat (⟨(0 : Int), (⟨#[]⟩ : ByteArray), (⟨#[]⟩ : ByteArray), (⟨#[]⟩ : ByteArray)⟩ : SAct)).fText) == (ByteArray.toList r1))) then
            some (-(1 : Int))
          else
            bif ((decide (0 ≤ i_5)) && (decide (i_5 < (a_0.length : Int)))) then
            (laws_markText (w64 ((w64 ((w64 (k_1 + 1)) + 1)) + 1))).bind fun r2 =>
            bif (!((ByteArray.toList (a_0.getD i_5.toNat (⟨(0 : Int), (⟨#[]⟩ : ByteArray), (⟨#[]⟩ : ByteArray), (⟨#[]⟩ : ByteArray)⟩ : SAct)).fTo) == (ByteArray.toList r2))) then
              some (-(1 : Int))
            else
              k (.c0 a_0 (w64 ((w64 ((w64 ((w64 (k_1 + 1)) + 1)) + 1)) + 1)) (w64 (i_5 + 1)))
            else none
          else none
        else none
      else none
    else
      some k_1
noncomputable def L_laws_heldActS : Nat → St_laws_heldActS → Option Int
  | 0, _ => none
  | m + 1, s => B_laws_heldActS laws_markText (L_laws_heldActS m) s
noncomputable def laws_heldActS (a_0 : (List SAct)) (k_1 : Int) : Option Int := E_laws_heldActS laws_markText (L_laws_heldActS gas) a_0 k_1
theorem e_laws_heldActS (laws_markText : Int → Option ByteArray) : EntryIs ctx PP 22 [] [(67, H_laws_markText laws_markText)] cv36 cv0 at_laws_heldActS (fun k a => E_laws_heldActS laws_markText k a.1 a.2) := fun stop a => by kernel_rfl
theorem b_laws_heldActS (laws_markText : Int → Option ByteArray) : CutIs ctx PP 22 Tryd.f22 [] [(67, H_laws_markText laws_markText)] cv0 at_laws_heldActS (B_laws_heldActS laws_markText) := fun stop s => by cases s <;> kernel_rfl
theorem i_laws_heldActS : ∀ s s', at_laws_heldActS s = at_laws_heldActS s' → s = s' := by
  intro s s' h
  cases s with
  | c0 v0 v1 v2 => cases s' with
    | c0 w0 w1 w2 => cases h; rfl
theorem ok_laws_heldActS : Tells ctx PP 22 cv36 cv0 (fun a => laws_heldActS a.1 a.2) := fn_ok (hl_cons h_laws_markText hl_nil) Tryd.func22 i_laws_heldActS (fun _ => rfl) (fun _ _ => rfl) (b_laws_heldActS laws_markText) (e_laws_heldActS laws_markText) gas
noncomputable def H_laws_heldActS {γ : Type} (F : (List SAct) → Int → Option Int) : Hd ctx γ := hdl cv36.dec (fun a => F a.1 a.2) cv0.enc
theorem h_laws_heldActS {γ : Type} : HdOk (γ := γ) PP 22 (H_laws_heldActS laws_heldActS) := hd_ok ok_laws_heldActS
noncomputable def E_laws_FnExactBookActs (laws_szRec : SRec → Int → Option Int) (laws_toRec : SRec → Option SRec) (spec_BookActs : ByteArray → Int → SRec → Option ((List SAct) × Bool)) (impl_BookActs : ByteArray → Int → SRec → Option ((List SAct) × Bool)) (laws_eqActS : (List SAct) → (List SAct) → Option Bool) (laws_markActS : (List SAct) → Int → Option (Int × (List SAct))) (laws_heldActS : (List SAct) → Int → Option Int) (aKey_0 : ByteArray) (aCount_1 : Int) (aR_2 : SRec) : Option Bool :=
  bif (decide ((aKey_0.size : Int) > 1048576)) then
    some true
  else
    (laws_szRec aR_2 (1048576 : Int)).bind fun r0 =>
    bif (decide (r0 < 0)) then
      some true
    else
      (laws_toRec aR_2).bind fun r1 =>
      (spec_BookActs aKey_0 aCount_1 r1).bind fun r2 =>
      (laws_toRec aR_2).bind fun r3 =>
      (impl_BookActs aKey_0 aCount_1 r3).bind fun r4 =>
      (laws_eqActS r4.1 r2.1).bind fun r5 =>
      bif (!r5) then
        some false
      else
        bif (!(r4.2 == r2.2)) then
          some false
        else
          (laws_markActS r4.1 (1 : Int)).bind fun r6 =>
          (laws_heldActS r6.2 (1 : Int)).bind fun r7 =>
          bif (decide (r7 < 0)) then
            some false
          else
            bif (r7 != r6.1) then
              some false
            else
              (laws_toRec aR_2).bind fun r8 =>
              (impl_BookActs aKey_0 aCount_1 r8).bind fun r9 =>
              (laws_eqActS r9.1 r2.1).bind fun r10 =>
              bif (!r10) then
                some false
              else
                bif (!(r9.2 == r2.2)) then
                  some false
                else
                  (laws_heldActS r6.2 (1 : Int)).bind fun r11 =>
                  bif (decide (r11 < 0)) then
                    some false
                  else
                    bif (r11 != r6.1) then
                      some false
                    else
                      some true
noncomputable def laws_FnExactBookActs (aKey_0 : ByteArray) (aCount_1 : Int) (aR_2 : SRec) : Option Bool := E_laws_FnExactBookActs laws_szRec laws_toRec spec_BookActs impl_BookActs laws_eqActS laws_markActS laws_heldActS aKey_0 aCount_1 aR_2
theorem e_laws_FnExactBookActs (laws_szRec : SRec → Int → Option Int) (laws_toRec : SRec → Option SRec) (spec_BookActs : ByteArray → Int → SRec → Option ((List SAct) × Bool)) (impl_BookActs : ByteArray → Int → SRec → Option ((List SAct) × Bool)) (laws_eqActS : (List SAct) → (List SAct) → Option Bool) (laws_markActS : (List SAct) → Int → Option (Int × (List SAct))) (laws_heldActS : (List SAct) → Int → Option Int) : EntryIs0 ctx PP 5 [] [(16, H_laws_szRec laws_szRec), (18, H_laws_toRec laws_toRec), (17, H_spec_BookActs spec_BookActs), (19, H_impl_BookActs impl_BookActs), (20, H_laws_eqActS laws_eqActS), (21, H_laws_markActS laws_markActS), (22, H_laws_heldActS laws_heldActS)] cv30 cv3 (fun a => E_laws_FnExactBookActs laws_szRec laws_toRec spec_BookActs impl_BookActs laws_eqActS laws_markActS laws_heldActS a.1 a.2.1 a.2.2) := fun a => by kernel_rfl
theorem ok_laws_FnExactBookActs : Tells ctx PP 5 cv30 cv3 (fun a => laws_FnExactBookActs a.1 a.2.1 a.2.2) := fn_ok0 (hl_cons h_laws_szRec (hl_cons h_laws_toRec (hl_cons h_spec_BookActs (hl_cons h_impl_BookActs (hl_cons h_laws_eqActS (hl_cons h_laws_markActS (hl_cons h_laws_heldActS hl_nil))))))) Tryd.func5 (e_laws_FnExactBookActs laws_szRec laws_toRec spec_BookActs impl_BookActs laws_eqActS laws_markActS laws_heldActS)
noncomputable def H_laws_FnExactBookActs {γ : Type} (F : ByteArray → Int → SRec → Option Bool) : Hd ctx γ := hdl cv30.dec (fun a => F a.1 a.2.1 a.2.2) cv3.enc
theorem h_laws_FnExactBookActs {γ : Type} : HdOk (γ := γ) PP 5 (H_laws_FnExactBookActs laws_FnExactBookActs) := hd_ok ok_laws_FnExactBookActs
end Go.Proofs.YtldjkjjfoofccaaDoor.G
