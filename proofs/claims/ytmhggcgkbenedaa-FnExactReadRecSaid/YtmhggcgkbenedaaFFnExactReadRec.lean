/- Functions of the program, told by plain functions: part 1 of 1. -/
import Derived.Test.YtmhggcgkbenedaaCtx
namespace Go.Proofs.Ytmhggcgkbenedaa.G
open Go Go.Ev
noncomputable def E_spec_l19Take  (c_0 : SL19Cur) (n_1 : Int) : Option (ByteArray × SL19Cur) :=
  bif c_0.fBad then
    some ((⟨#[]⟩ : ByteArray), (⟨c_0.fText, c_0.fAt, true⟩ : SL19Cur))
  else
    bif (decide (n_1 > (w64 ((c_0.fText.size : Int) - c_0.fAt)))) then
      some ((⟨#[]⟩ : ByteArray), (⟨c_0.fText, c_0.fAt, true⟩ : SL19Cur))
    else
      bif (((decide (0 ≤ (w64 ((w64 (c_0.fAt + n_1)) - n_1)))) && (decide ((w64 ((w64 (c_0.fAt + n_1)) - n_1)) ≤ (w64 (c_0.fAt + n_1))))) && (decide ((w64 (c_0.fAt + n_1)) ≤ (c_0.fText.size : Int)))) then
      some ((c_0.fText.extract (w64 ((w64 (c_0.fAt + n_1)) - n_1)).toNat (w64 (c_0.fAt + n_1)).toNat), (⟨c_0.fText, (w64 (c_0.fAt + n_1)), c_0.fBad⟩ : SL19Cur))
      else none
noncomputable def spec_l19Take (c_0 : SL19Cur) (n_1 : Int) : Option (ByteArray × SL19Cur) := E_spec_l19Take  c_0 n_1
theorem e_spec_l19Take  : EntryIs0 ctx PP 77 [0] [] cv49 cv50 (fun a => E_spec_l19Take  a.1 a.2) := fun a => by kernel_rfl
theorem ok_spec_l19Take : Tells ctx PP 77 cv49 cv50 (fun a => spec_l19Take a.1 a.2) := fn_ok0 hl_nil Try.func77 (e_spec_l19Take )
noncomputable def H_spec_l19Take {γ : Type} (F : SL19Cur → Int → Option (ByteArray × SL19Cur)) : Hd ctx γ := hdl cv49.dec (fun a => F a.1 a.2) cv50.enc
theorem h_spec_l19Take {γ : Type} : HdOk (γ := γ) PP 77 (H_spec_l19Take spec_l19Take) := hd_ok ok_spec_l19Take
noncomputable def E_spec_l19One (spec_l19Take : SL19Cur → Int → Option (ByteArray × SL19Cur)) (c_0 : SL19Cur) : Option (Int × SL19Cur) :=
  (spec_l19Take c_0 (1 : Int)).bind fun r0 =>
  bif r0.2.fBad then
    some ((0 : Int), r0.2)
  else
    bif ((decide ((0 : Int) ≤ (0 : Int))) && (decide (0 < (r0.1.size : Int)))) then
    some ((w64 (bt r0.1 (0 : Int))), r0.2)
    else none
noncomputable def spec_l19One (c_0 : SL19Cur) : Option (Int × SL19Cur) := E_spec_l19One spec_l19Take c_0
theorem e_spec_l19One (spec_l19Take : SL19Cur → Int → Option (ByteArray × SL19Cur)) : EntryIs0 ctx PP 73 [0] [(77, H_spec_l19Take spec_l19Take)] cv47 cv48 (fun a => E_spec_l19One spec_l19Take a) := fun a => by kernel_rfl
theorem ok_spec_l19One : Tells ctx PP 73 cv47 cv48 (fun a => spec_l19One a) := fn_ok0 (hl_cons h_spec_l19Take hl_nil) Try.func73 (e_spec_l19One spec_l19Take)
noncomputable def H_spec_l19One {γ : Type} (F : SL19Cur → Option (Int × SL19Cur)) : Hd ctx γ := hdl cv47.dec (fun a => F a) cv48.enc
theorem h_spec_l19One {γ : Type} : HdOk (γ := γ) PP 73 (H_spec_l19One spec_l19One) := hd_ok ok_spec_l19One
noncomputable def E_spec_l01In  (x_0 : Int) (least_1 : Int) (most_2 : Int) : Option Bool :=
  bif (decide (x_0 ≥ least_1)) then
    some (decide (x_0 ≤ most_2))
  else
    some false
noncomputable def spec_l01In (x_0 : Int) (least_1 : Int) (most_2 : Int) : Option Bool := E_spec_l01In  x_0 least_1 most_2
theorem e_spec_l01In  : EntryIs0 ctx PP 70 [] [] cv3 cv4 (fun a => E_spec_l01In  a.1 a.2.1 a.2.2) := fun a => by kernel_rfl
theorem ok_spec_l01In : Tells ctx PP 70 cv3 cv4 (fun a => spec_l01In a.1 a.2.1 a.2.2) := fn_ok0 hl_nil Try.func70 (e_spec_l01In )
noncomputable def H_spec_l01In {γ : Type} (F : Int → Int → Int → Option Bool) : Hd ctx γ := hdl cv3.dec (fun a => F a.1 a.2.1 a.2.2) cv4.enc
theorem h_spec_l01In {γ : Type} : HdOk (γ := γ) PP 70 (H_spec_l01In spec_l01In) := hd_ok ok_spec_l01In
noncomputable def todo_spec_l01Var_0 : List Go.Item := [.code (cAt (bodyOf Try.f48) [1, 1, 0, 0, 0, 0, 0]), .code (cAt (bodyOf Try.f48) [1, 1, 0, 0, 0, 0, 1]), .code (cAt (bodyOf Try.f48) [1, 1, 0, 0, 0, 1]), .inLoop (cAt (bodyOf Try.f48) [1, 1, 0, 0, 0]), .inBlock 0, .code (cAt (bodyOf Try.f48) [1, 1, 1])]
inductive St_spec_l01Var where
  | c0 (n_0 : Int) (out_3 : (List Int))
noncomputable def at_spec_l01Var : St_spec_l01Var → LI
  | .c0 n_0 out_3 => (todo_spec_l01Var_0, [(0, [.one (.int .i64 n_0)]), (3, [.one (.own 240)])], [(240, .sl 5 out_3)])
noncomputable def E_spec_l01Var  (k : St_spec_l01Var → Option ByteArray) (n_0 : Int) : Option ByteArray :=
  k (.c0 n_0 [])
noncomputable def B_spec_l01Var  (k : St_spec_l01Var → Option ByteArray) : St_spec_l01Var → Option ByteArray
  | .c0 n_0 out_3 =>
    bif (decide (n_0 > 127)) then
      bif (decide (((out_3.length + 1) * 1) ≤ 140737488355328)) then
      k (.c0 (w64 (n_0.tdiv 128)) (out_3 ++ [(w8 (w64 ((n_0.tmod 128) + 128)))]))
      else none
    else
      bif (decide (((out_3.length + 1) * 1) ≤ 140737488355328)) then
      some (ofBytes (out_3 ++ [(w8 n_0)]))
      else none
noncomputable def L_spec_l01Var : Nat → St_spec_l01Var → Option ByteArray
  | 0, _ => none
  | m + 1, s => B_spec_l01Var  (L_spec_l01Var m) s
noncomputable def spec_l01Var (n_0 : Int) : Option ByteArray := E_spec_l01Var  (L_spec_l01Var gas) n_0
theorem e_spec_l01Var  : EntryIs ctx PP 48 [] [] cv1 cv6 at_spec_l01Var (fun k a => E_spec_l01Var  k a) := fun stop a => by kernel_rfl
theorem b_spec_l01Var  : CutIs ctx PP 48 Try.f48 [] [] cv6 at_spec_l01Var (B_spec_l01Var ) := fun stop s => by cases s <;> kernel_rfl
theorem i_spec_l01Var : ∀ s s', at_spec_l01Var s = at_spec_l01Var s' → s = s' := by
  intro s s' h
  cases s with
  | c0 v0 v1 => cases s' with
    | c0 w0 w1 => cases h; rfl
theorem ok_spec_l01Var : Tells ctx PP 48 cv1 cv6 (fun a => spec_l01Var a) := fn_ok hl_nil Try.func48 i_spec_l01Var (fun _ => rfl) (fun _ _ => rfl) (b_spec_l01Var ) (e_spec_l01Var ) gas
noncomputable def H_spec_l01Var {γ : Type} (F : Int → Option ByteArray) : Hd ctx γ := hdl cv1.dec (fun a => F a) cv6.enc
theorem h_spec_l01Var {γ : Type} : HdOk (γ := γ) PP 48 (H_spec_l01Var spec_l01Var) := hd_ok ok_spec_l01Var
noncomputable def todo_spec_ReadVar_0 : List Go.Item := [.code (cAt (bodyOf Try.f79) [1, 1, 1, 1, 0, 1, 0, 0, 0, 0]), .code (cAt (bodyOf Try.f79) [1, 1, 1, 1, 0, 1, 0, 0, 0, 1]), .code (cAt (bodyOf Try.f79) [1, 1, 1, 1, 0, 1, 0, 0, 1]), .inLoop (cAt (bodyOf Try.f79) [1, 1, 1, 1, 0, 1, 0, 0]), .inBlock 0, .code (cAt (bodyOf Try.f79) [1, 1, 1, 1, 1])]
inductive St_spec_ReadVar where
  | c0 (text_0 : ByteArray) (at_1 : Int) (n_7 : Int) (scale_8 : Int) (i_9 : Int)
noncomputable def at_spec_ReadVar : St_spec_ReadVar → LI
  | .c0 text_0 at_1 n_7 scale_8 i_9 => (todo_spec_ReadVar_0, [(0, [.one (.str text_0)]), (1, [.one (.int .i64 at_1)]), (7, [.one (.int .i64 n_7)]), (8, [.one (.int .i64 scale_8)]), (9, [.one (.int .i64 i_9)])], [])
noncomputable def E_spec_ReadVar (spec_l01In : Int → Int → Int → Option Bool) (spec_l01Var : Int → Option ByteArray) (k : St_spec_ReadVar → Option (Int × Int × Bool)) (text_0 : ByteArray) (at_1 : Int) : Option (Int × Int × Bool) :=
  (spec_l01In at_1 (0 : Int) (text_0.size : Int)).bind fun r0 =>
  bif (!r0) then
    some ((0 : Int), ((0 : Int), false))
  else
    k (.c0 text_0 at_1 (0 : Int) (1 : Int) at_1)
noncomputable def B_spec_ReadVar (spec_l01In : Int → Int → Int → Option Bool) (spec_l01Var : Int → Option ByteArray) (k : St_spec_ReadVar → Option (Int × Int × Bool)) : St_spec_ReadVar → Option (Int × Int × Bool)
  | .c0 text_0 at_1 n_7 scale_8 i_9 =>
    bif (decide (i_9 < (text_0.size : Int))) then
      bif (decide (i_9 < (w64 (at_1 + 5)))) then
        bif ((decide (0 ≤ i_9)) && (decide (i_9 < (text_0.size : Int)))) then
        bif ((decide (0 ≤ i_9)) && (decide (i_9 < (text_0.size : Int)))) then
        bif (decide ((bt text_0 i_9) < 128)) then
          bif (decide ((w64 (n_7 + (w64 (((w64 (bt text_0 i_9)).tmod 128) * scale_8)))) > 1000000000)) then
            some ((0 : Int), ((0 : Int), false))
          else
            (spec_l01Var (w64 (n_7 + (w64 (((w64 (bt text_0 i_9)).tmod 128) * scale_8))))).bind fun r0 =>
            bif (((decide (0 ≤ at_1)) && (decide (at_1 ≤ (w64 (i_9 + 1))))) && (decide ((w64 (i_9 + 1)) ≤ (text_0.size : Int)))) then
            bif (!((ByteArray.toList r0) == (ByteArray.toList (text_0.extract at_1.toNat (w64 (i_9 + 1)).toNat)))) then
              some ((0 : Int), ((0 : Int), false))
            else
              some ((w64 (n_7 + (w64 (((w64 (bt text_0 i_9)).tmod 128) * scale_8)))), ((w64 (i_9 + 1)), true))
            else none
        else
          k (.c0 text_0 at_1 (w64 (n_7 + (w64 (((w64 (bt text_0 i_9)).tmod 128) * scale_8)))) (w64 (scale_8 * 128)) (w64 (i_9 + 1)))
        else none
        else none
      else
        some ((0 : Int), ((0 : Int), false))
    else
      some ((0 : Int), ((0 : Int), false))
noncomputable def L_spec_ReadVar : Nat → St_spec_ReadVar → Option (Int × Int × Bool)
  | 0, _ => none
  | m + 1, s => B_spec_ReadVar spec_l01In spec_l01Var (L_spec_ReadVar m) s
noncomputable def spec_ReadVar (text_0 : ByteArray) (at_1 : Int) : Option (Int × Int × Bool) := E_spec_ReadVar spec_l01In spec_l01Var (L_spec_ReadVar gas) text_0 at_1
theorem e_spec_ReadVar (spec_l01In : Int → Int → Int → Option Bool) (spec_l01Var : Int → Option ByteArray) : EntryIs ctx PP 79 [] [(70, H_spec_l01In spec_l01In), (48, H_spec_l01Var spec_l01Var)] cv45 cv46 at_spec_ReadVar (fun k a => E_spec_ReadVar spec_l01In spec_l01Var k a.1 a.2) := fun stop a => by kernel_rfl
theorem b_spec_ReadVar (spec_l01In : Int → Int → Int → Option Bool) (spec_l01Var : Int → Option ByteArray) : CutIs ctx PP 79 Try.f79 [] [(70, H_spec_l01In spec_l01In), (48, H_spec_l01Var spec_l01Var)] cv46 at_spec_ReadVar (B_spec_ReadVar spec_l01In spec_l01Var) := fun stop s => by cases s <;> kernel_rfl
theorem i_spec_ReadVar : ∀ s s', at_spec_ReadVar s = at_spec_ReadVar s' → s = s' := by
  intro s s' h
  cases s with
  | c0 v0 v1 v2 v3 v4 => cases s' with
    | c0 w0 w1 w2 w3 w4 => cases h; rfl
theorem ok_spec_ReadVar : Tells ctx PP 79 cv45 cv46 (fun a => spec_ReadVar a.1 a.2) := fn_ok (hl_cons h_spec_l01In (hl_cons h_spec_l01Var hl_nil)) Try.func79 i_spec_ReadVar (fun _ => rfl) (fun _ _ => rfl) (b_spec_ReadVar spec_l01In spec_l01Var) (e_spec_ReadVar spec_l01In spec_l01Var) gas
noncomputable def H_spec_ReadVar {γ : Type} (F : ByteArray → Int → Option (Int × Int × Bool)) : Hd ctx γ := hdl cv45.dec (fun a => F a.1 a.2) cv46.enc
theorem h_spec_ReadVar {γ : Type} : HdOk (γ := γ) PP 79 (H_spec_ReadVar spec_ReadVar) := hd_ok ok_spec_ReadVar
noncomputable def E_spec_l19Var (spec_ReadVar : ByteArray → Int → Option (Int × Int × Bool)) (c_0 : SL19Cur) : Option (Int × SL19Cur) :=
  (spec_ReadVar c_0.fText c_0.fAt).bind fun r0 =>
  bif c_0.fBad then
    some ((0 : Int), (⟨c_0.fText, c_0.fAt, true⟩ : SL19Cur))
  else
    bif (!r0.2.2) then
      some ((0 : Int), (⟨c_0.fText, c_0.fAt, true⟩ : SL19Cur))
    else
      some (r0.1, (⟨c_0.fText, r0.2.1, c_0.fBad⟩ : SL19Cur))
noncomputable def spec_l19Var (c_0 : SL19Cur) : Option (Int × SL19Cur) := E_spec_l19Var spec_ReadVar c_0
theorem e_spec_l19Var (spec_ReadVar : ByteArray → Int → Option (Int × Int × Bool)) : EntryIs0 ctx PP 72 [0] [(79, H_spec_ReadVar spec_ReadVar)] cv47 cv48 (fun a => E_spec_l19Var spec_ReadVar a) := fun a => by kernel_rfl
theorem ok_spec_l19Var : Tells ctx PP 72 cv47 cv48 (fun a => spec_l19Var a) := fn_ok0 (hl_cons h_spec_ReadVar hl_nil) Try.func72 (e_spec_l19Var spec_ReadVar)
noncomputable def H_spec_l19Var {γ : Type} (F : SL19Cur → Option (Int × SL19Cur)) : Hd ctx γ := hdl cv47.dec (fun a => F a) cv48.enc
theorem h_spec_l19Var {γ : Type} : HdOk (γ := γ) PP 72 (H_spec_l19Var spec_l19Var) := hd_ok ok_spec_l19Var
noncomputable def E_spec_l19ReadShort (spec_l19Var : SL19Cur → Option (Int × SL19Cur)) (spec_l19Take : SL19Cur → Int → Option (ByteArray × SL19Cur)) (c_0 : SL19Cur) : Option (ByteArray × SL19Cur) :=
  (spec_l19Var c_0).bind fun r0 =>
  (spec_l19Take r0.2 r0.1).bind fun r1 =>
  some (r1.1, r1.2)
noncomputable def spec_l19ReadShort (c_0 : SL19Cur) : Option (ByteArray × SL19Cur) := E_spec_l19ReadShort spec_l19Var spec_l19Take c_0
theorem e_spec_l19ReadShort (spec_l19Var : SL19Cur → Option (Int × SL19Cur)) (spec_l19Take : SL19Cur → Int → Option (ByteArray × SL19Cur)) : EntryIs0 ctx PP 74 [0] [(72, H_spec_l19Var spec_l19Var), (77, H_spec_l19Take spec_l19Take)] cv47 cv50 (fun a => E_spec_l19ReadShort spec_l19Var spec_l19Take a) := fun a => by kernel_rfl
theorem ok_spec_l19ReadShort : Tells ctx PP 74 cv47 cv50 (fun a => spec_l19ReadShort a) := fn_ok0 (hl_cons h_spec_l19Var (hl_cons h_spec_l19Take hl_nil)) Try.func74 (e_spec_l19ReadShort spec_l19Var spec_l19Take)
noncomputable def H_spec_l19ReadShort {γ : Type} (F : SL19Cur → Option (ByteArray × SL19Cur)) : Hd ctx γ := hdl cv47.dec (fun a => F a) cv50.enc
theorem h_spec_l19ReadShort {γ : Type} : HdOk (γ := γ) PP 74 (H_spec_l19ReadShort spec_l19ReadShort) := hd_ok ok_spec_l19ReadShort
noncomputable def E_spec_ThingOk (spec_l01In : Int → Int → Int → Option Bool) (x_0 : SThing) : Option Bool :=
  (spec_l01In x_0.fId (1 : Int) (1000 : Int)).bind fun r0 =>
  bif (!r0) then
    some false
  else
    (spec_l01In x_0.fKind (1 : Int) (3 : Int)).bind fun r1 =>
    bif (!r1) then
      some false
    else
      (spec_l01In x_0.fNext (0 : Int) (16 : Int)).bind fun r2 =>
      bif (!r2) then
        some false
      else
        bif (x_0.fKind != 2) then
          bif (x_0.fNext != 0) then
            some false
          else
            bif x_0.fSigns then
              some false
            else
              bif (x_0.fKind != 1) then
                bif x_0.fWraps then
                  some false
                else
                  bif (x_0.fKind == 3) then
                    some (decide ((x_0.fValue.size : Int) ≤ 100))
                  else
                    some ((x_0.fValue.size : Int) == 32)
              else
                bif (x_0.fKind == 3) then
                  some (decide ((x_0.fValue.size : Int) ≤ 100))
                else
                  some ((x_0.fValue.size : Int) == 32)
        else
          bif (x_0.fKind != 1) then
            bif x_0.fWraps then
              some false
            else
              bif (x_0.fKind == 3) then
                some (decide ((x_0.fValue.size : Int) ≤ 100))
              else
                some ((x_0.fValue.size : Int) == 32)
          else
            bif (x_0.fKind == 3) then
              some (decide ((x_0.fValue.size : Int) ≤ 100))
            else
              some ((x_0.fValue.size : Int) == 32)
noncomputable def spec_ThingOk (x_0 : SThing) : Option Bool := E_spec_ThingOk spec_l01In x_0
theorem e_spec_ThingOk (spec_l01In : Int → Int → Int → Option Bool) : EntryIs0 ctx PP 46 [] [(70, H_spec_l01In spec_l01In)] cv2 cv4 (fun a => E_spec_ThingOk spec_l01In a) := fun a => by kernel_rfl
theorem ok_spec_ThingOk : Tells ctx PP 46 cv2 cv4 (fun a => spec_ThingOk a) := fn_ok0 (hl_cons h_spec_l01In hl_nil) Try.func46 (e_spec_ThingOk spec_l01In)
noncomputable def H_spec_ThingOk {γ : Type} (F : SThing → Option Bool) : Hd ctx γ := hdl cv2.dec (fun a => F a) cv4.enc
theorem h_spec_ThingOk {γ : Type} : HdOk (γ := γ) PP 46 (H_spec_ThingOk spec_ThingOk) := hd_ok ok_spec_ThingOk
noncomputable def E_spec_l19Flag  (x_0 : Bool) (n_1 : Int) : Option Int :=
  bif x_0 then
    some n_1
  else
    some (0 : Int)
noncomputable def spec_l19Flag (x_0 : Bool) (n_1 : Int) : Option Int := E_spec_l19Flag  x_0 n_1
theorem e_spec_l19Flag  : EntryIs0 ctx PP 47 [] [] cv5 cv1 (fun a => E_spec_l19Flag  a.1 a.2) := fun a => by kernel_rfl
theorem ok_spec_l19Flag : Tells ctx PP 47 cv5 cv1 (fun a => spec_l19Flag a.1 a.2) := fn_ok0 hl_nil Try.func47 (e_spec_l19Flag )
noncomputable def H_spec_l19Flag {γ : Type} (F : Bool → Int → Option Int) : Hd ctx γ := hdl cv5.dec (fun a => F a.1 a.2) cv1.enc
theorem h_spec_l19Flag {γ : Type} : HdOk (γ := γ) PP 47 (H_spec_l19Flag spec_l19Flag) := hd_ok ok_spec_l19Flag
noncomputable def E_spec_l06Byte  (n_0 : Int) : Option ByteArray :=
  bif (decide ((n_0.tmod 256) < 0)) then
    some (ofBytes [(w8 (w64 ((n_0.tmod 256) + 256)))])
  else
    some (ofBytes [(w8 (n_0.tmod 256))])
noncomputable def spec_l06Byte (n_0 : Int) : Option ByteArray := E_spec_l06Byte  n_0
theorem e_spec_l06Byte  : EntryIs0 ctx PP 49 [] [] cv1 cv6 (fun a => E_spec_l06Byte  a) := fun a => by kernel_rfl
theorem ok_spec_l06Byte : Tells ctx PP 49 cv1 cv6 (fun a => spec_l06Byte a) := fn_ok0 hl_nil Try.func49 (e_spec_l06Byte )
noncomputable def H_spec_l06Byte {γ : Type} (F : Int → Option ByteArray) : Hd ctx γ := hdl cv1.dec (fun a => F a) cv6.enc
theorem h_spec_l06Byte {γ : Type} : HdOk (γ := γ) PP 49 (H_spec_l06Byte spec_l06Byte) := hd_ok ok_spec_l06Byte
noncomputable def E_spec_l19Short (spec_l01Var : Int → Option ByteArray) (s_0 : ByteArray) : Option ByteArray :=
  (spec_l01Var (s_0.size : Int)).bind fun r0 =>
  bif (decide ((r0.size + s_0.size) ≤ 9223372036854775807)) then
  some (r0 ++ s_0)
  else none
noncomputable def spec_l19Short (s_0 : ByteArray) : Option ByteArray := E_spec_l19Short spec_l01Var s_0
theorem e_spec_l19Short (spec_l01Var : Int → Option ByteArray) : EntryIs0 ctx PP 50 [] [(48, H_spec_l01Var spec_l01Var)] cv6 cv6 (fun a => E_spec_l19Short spec_l01Var a) := fun a => by kernel_rfl
theorem ok_spec_l19Short : Tells ctx PP 50 cv6 cv6 (fun a => spec_l19Short a) := fn_ok0 (hl_cons h_spec_l01Var hl_nil) Try.func50 (e_spec_l19Short spec_l01Var)
noncomputable def H_spec_l19Short {γ : Type} (F : ByteArray → Option ByteArray) : Hd ctx γ := hdl cv6.dec (fun a => F a) cv6.enc
theorem h_spec_l19Short {γ : Type} : HdOk (γ := γ) PP 50 (H_spec_l19Short spec_l19Short) := hd_ok ok_spec_l19Short
noncomputable def E_spec_ThingText (spec_ThingOk : SThing → Option Bool) (spec_l19Flag : Bool → Int → Option Int) (spec_l01Var : Int → Option ByteArray) (spec_l06Byte : Int → Option ByteArray) (spec_l19Short : ByteArray → Option ByteArray) (x_0 : SThing) : Option (ByteArray × Bool) :=
  (spec_ThingOk x_0).bind fun r0 =>
  bif (!r0) then
    some ((⟨#[]⟩ : ByteArray), false)
  else
    (spec_l19Flag x_0.fHidden (1 : Int)).bind fun r1 =>
    (spec_l19Flag x_0.fFixed (2 : Int)).bind fun r2 =>
    (spec_l19Flag x_0.fSigns (4 : Int)).bind fun r3 =>
    (spec_l19Flag x_0.fWraps (8 : Int)).bind fun r4 =>
    (spec_l01Var x_0.fId).bind fun r5 =>
    (spec_l06Byte x_0.fKind).bind fun r6 =>
    bif (decide ((r5.size + r6.size) ≤ 9223372036854775807)) then
    (spec_l06Byte (w64 ((w64 ((w64 (r1 + r2)) + r3)) + r4))).bind fun r7 =>
    bif (decide (((r5 ++ r6).size + r7.size) ≤ 9223372036854775807)) then
    (spec_l19Short x_0.fValue).bind fun r8 =>
    bif (decide ((((r5 ++ r6) ++ r7).size + r8.size) ≤ 9223372036854775807)) then
    (spec_l01Var x_0.fNext).bind fun r9 =>
    bif (decide (((((r5 ++ r6) ++ r7) ++ r8).size + r9.size) ≤ 9223372036854775807)) then
    some (((((r5 ++ r6) ++ r7) ++ r8) ++ r9), true)
    else none
    else none
    else none
    else none
noncomputable def spec_ThingText (x_0 : SThing) : Option (ByteArray × Bool) := E_spec_ThingText spec_ThingOk spec_l19Flag spec_l01Var spec_l06Byte spec_l19Short x_0
theorem e_spec_ThingText (spec_ThingOk : SThing → Option Bool) (spec_l19Flag : Bool → Int → Option Int) (spec_l01Var : Int → Option ByteArray) (spec_l06Byte : Int → Option ByteArray) (spec_l19Short : ByteArray → Option ByteArray) : EntryIs0 ctx PP 12 [] [(46, H_spec_ThingOk spec_ThingOk), (47, H_spec_l19Flag spec_l19Flag), (48, H_spec_l01Var spec_l01Var), (49, H_spec_l06Byte spec_l06Byte), (50, H_spec_l19Short spec_l19Short)] cv2 cv7 (fun a => E_spec_ThingText spec_ThingOk spec_l19Flag spec_l01Var spec_l06Byte spec_l19Short a) := fun a => by kernel_rfl
theorem ok_spec_ThingText : Tells ctx PP 12 cv2 cv7 (fun a => spec_ThingText a) := fn_ok0 (hl_cons h_spec_ThingOk (hl_cons h_spec_l19Flag (hl_cons h_spec_l01Var (hl_cons h_spec_l06Byte (hl_cons h_spec_l19Short hl_nil))))) Try.func12 (e_spec_ThingText spec_ThingOk spec_l19Flag spec_l01Var spec_l06Byte spec_l19Short)
noncomputable def H_spec_ThingText {γ : Type} (F : SThing → Option (ByteArray × Bool)) : Hd ctx γ := hdl cv2.dec (fun a => F a) cv7.enc
theorem h_spec_ThingText {γ : Type} : HdOk (γ := γ) PP 12 (H_spec_ThingText spec_ThingText) := hd_ok ok_spec_ThingText
noncomputable def E_spec_ReadThing (spec_l19Var : SL19Cur → Option (Int × SL19Cur)) (spec_l19One : SL19Cur → Option (Int × SL19Cur)) (spec_l19ReadShort : SL19Cur → Option (ByteArray × SL19Cur)) (spec_ThingText : SThing → Option (ByteArray × Bool)) (text_0 : ByteArray) : Option (SThing × Bool) :=
  (spec_l19Var (⟨text_0, (0 : Int), false⟩ : SL19Cur)).bind fun r0 =>
  (spec_l19One r0.2).bind fun r1 =>
  (spec_l19One r1.2).bind fun r2 =>
  (spec_l19ReadShort r2.2).bind fun r3 =>
  (spec_l19Var r3.2).bind fun r4 =>
  (spec_ThingText (⟨r0.1, r1.1, ((r2.1.tmod 2) == 1), (((w64 (r2.1.tdiv 2)).tmod 2) == 1), (((w64 (r2.1.tdiv 4)).tmod 2) == 1), (((w64 (r2.1.tdiv 8)).tmod 2) == 1), r3.1, r4.1⟩ : SThing)).bind fun r5 =>
  bif r4.2.fBad then
    some ((⟨(0 : Int), (0 : Int), false, false, false, false, (⟨#[]⟩ : ByteArray), (0 : Int)⟩ : SThing), false)
  else
    bif (!r5.2) then
      some ((⟨(0 : Int), (0 : Int), false, false, false, false, (⟨#[]⟩ : ByteArray), (0 : Int)⟩ : SThing), false)
    else
      bif (!((ByteArray.toList r5.1) == (ByteArray.toList text_0))) then
        some ((⟨(0 : Int), (0 : Int), false, false, false, false, (⟨#[]⟩ : ByteArray), (0 : Int)⟩ : SThing), false)
      else
        some ((⟨r0.1, r1.1, ((r2.1.tmod 2) == 1), (((w64 (r2.1.tdiv 2)).tmod 2) == 1), (((w64 (r2.1.tdiv 4)).tmod 2) == 1), (((w64 (r2.1.tdiv 8)).tmod 2) == 1), r3.1, r4.1⟩ : SThing), true)
noncomputable def spec_ReadThing (text_0 : ByteArray) : Option (SThing × Bool) := E_spec_ReadThing spec_l19Var spec_l19One spec_l19ReadShort spec_ThingText text_0
theorem e_spec_ReadThing (spec_l19Var : SL19Cur → Option (Int × SL19Cur)) (spec_l19One : SL19Cur → Option (Int × SL19Cur)) (spec_l19ReadShort : SL19Cur → Option (ByteArray × SL19Cur)) (spec_ThingText : SThing → Option (ByteArray × Bool)) : EntryIs0 ctx PP 41 [] [(72, H_spec_l19Var spec_l19Var), (73, H_spec_l19One spec_l19One), (74, H_spec_l19ReadShort spec_l19ReadShort), (12, H_spec_ThingText spec_ThingText)] cv6 cv38 (fun a => E_spec_ReadThing spec_l19Var spec_l19One spec_l19ReadShort spec_ThingText a) := fun a => by kernel_rfl
theorem ok_spec_ReadThing : Tells ctx PP 41 cv6 cv38 (fun a => spec_ReadThing a) := fn_ok0 (hl_cons h_spec_l19Var (hl_cons h_spec_l19One (hl_cons h_spec_l19ReadShort (hl_cons h_spec_ThingText hl_nil)))) Try.func41 (e_spec_ReadThing spec_l19Var spec_l19One spec_l19ReadShort spec_ThingText)
noncomputable def H_spec_ReadThing {γ : Type} (F : ByteArray → Option (SThing × Bool)) : Hd ctx γ := hdl cv6.dec (fun a => F a) cv38.enc
theorem h_spec_ReadThing {γ : Type} : HdOk (γ := γ) PP 41 (H_spec_ReadThing spec_ReadThing) := hd_ok ok_spec_ReadThing
noncomputable def E_spec_RecText (spec_l01In : Int → Int → Int → Option Bool) (spec_l01Var : Int → Option ByteArray) (spec_ThingText : SThing → Option (ByteArray × Bool)) (r_0 : SRec) : Option (ByteArray × Bool) :=
  bif (r_0.fKind == 1) then
    bif ((r_0.fText.size : Int) == 32) then
      bif (r_0.fNum == 0) then
        bif ((r_0.fThing.fId == 0) && ((r_0.fThing.fKind == 0) && ((r_0.fThing.fHidden == false) && ((r_0.fThing.fFixed == false) && ((r_0.fThing.fSigns == false) && ((r_0.fThing.fWraps == false) && (((ByteArray.toList r_0.fThing.fValue) == (ByteArray.toList (⟨#[]⟩ : ByteArray))) && ((r_0.fThing.fNext == 0) && true)))))))) then
          bif (decide (((⟨#[1]⟩ : ByteArray).size + r_0.fText.size) ≤ 9223372036854775807)) then
          some (((⟨#[1]⟩ : ByteArray) ++ r_0.fText), true)
          else none
        else
          some ((⟨#[]⟩ : ByteArray), false)
      else
        some ((⟨#[]⟩ : ByteArray), false)
    else
      some ((⟨#[]⟩ : ByteArray), false)
  else
    bif (r_0.fKind == 2) then
      bif ((ByteArray.toList r_0.fText) == (ByteArray.toList (⟨#[]⟩ : ByteArray))) then
        bif ((r_0.fThing.fId == 0) && ((r_0.fThing.fKind == 0) && ((r_0.fThing.fHidden == false) && ((r_0.fThing.fFixed == false) && ((r_0.fThing.fSigns == false) && ((r_0.fThing.fWraps == false) && (((ByteArray.toList r_0.fThing.fValue) == (ByteArray.toList (⟨#[]⟩ : ByteArray))) && ((r_0.fThing.fNext == 0) && true)))))))) then
          (spec_l01In r_0.fNum (0 : Int) (3 : Int)).bind fun r0 =>
          bif r0 then
            (spec_l01Var r_0.fNum).bind fun r1 =>
            bif (decide (((⟨#[2]⟩ : ByteArray).size + r1.size) ≤ 9223372036854775807)) then
            some (((⟨#[2]⟩ : ByteArray) ++ r1), true)
            else none
          else
            some ((⟨#[]⟩ : ByteArray), false)
        else
          some ((⟨#[]⟩ : ByteArray), false)
      else
        some ((⟨#[]⟩ : ByteArray), false)
    else
      bif (r_0.fKind == 3) then
        (spec_ThingText r_0.fThing).bind fun r2 =>
        bif r2.2 then
          bif ((ByteArray.toList r_0.fText) == (ByteArray.toList (⟨#[]⟩ : ByteArray))) then
            bif (r_0.fNum == 0) then
              bif (decide (((⟨#[3]⟩ : ByteArray).size + r2.1.size) ≤ 9223372036854775807)) then
              some (((⟨#[3]⟩ : ByteArray) ++ r2.1), true)
              else none
            else
              some ((⟨#[]⟩ : ByteArray), false)
          else
            some ((⟨#[]⟩ : ByteArray), false)
        else
          some ((⟨#[]⟩ : ByteArray), false)
      else
        bif (r_0.fKind == 4) then
          bif ((ByteArray.toList r_0.fText) == (ByteArray.toList (⟨#[]⟩ : ByteArray))) then
            bif ((r_0.fThing.fId == 0) && ((r_0.fThing.fKind == 0) && ((r_0.fThing.fHidden == false) && ((r_0.fThing.fFixed == false) && ((r_0.fThing.fSigns == false) && ((r_0.fThing.fWraps == false) && (((ByteArray.toList r_0.fThing.fValue) == (ByteArray.toList (⟨#[]⟩ : ByteArray))) && ((r_0.fThing.fNext == 0) && true)))))))) then
              (spec_l01In r_0.fNum (1 : Int) (1000 : Int)).bind fun r3 =>
              bif r3 then
                (spec_l01Var r_0.fNum).bind fun r4 =>
                bif (decide (((⟨#[4]⟩ : ByteArray).size + r4.size) ≤ 9223372036854775807)) then
                some (((⟨#[4]⟩ : ByteArray) ++ r4), true)
                else none
              else
                some ((⟨#[]⟩ : ByteArray), false)
            else
              some ((⟨#[]⟩ : ByteArray), false)
          else
            some ((⟨#[]⟩ : ByteArray), false)
        else
          some ((⟨#[]⟩ : ByteArray), false)
noncomputable def spec_RecText (r_0 : SRec) : Option (ByteArray × Bool) := E_spec_RecText spec_l01In spec_l01Var spec_ThingText r_0
theorem e_spec_RecText (spec_l01In : Int → Int → Int → Option Bool) (spec_l01Var : Int → Option ByteArray) (spec_ThingText : SThing → Option (ByteArray × Bool)) : EntryIs0 ctx PP 36 [] [(70, H_spec_l01In spec_l01In), (48, H_spec_l01Var spec_l01Var), (12, H_spec_ThingText spec_ThingText)] cv43 cv7 (fun a => E_spec_RecText spec_l01In spec_l01Var spec_ThingText a) := fun a => by kernel_rfl
theorem ok_spec_RecText : Tells ctx PP 36 cv43 cv7 (fun a => spec_RecText a) := fn_ok0 (hl_cons h_spec_l01In (hl_cons h_spec_l01Var (hl_cons h_spec_ThingText hl_nil))) Try.func36 (e_spec_RecText spec_l01In spec_l01Var spec_ThingText)
noncomputable def H_spec_RecText {γ : Type} (F : SRec → Option (ByteArray × Bool)) : Hd ctx γ := hdl cv43.dec (fun a => F a) cv7.enc
theorem h_spec_RecText {γ : Type} : HdOk (γ := γ) PP 36 (H_spec_RecText spec_RecText) := hd_ok ok_spec_RecText
noncomputable def E_spec_ReadRec (spec_l19One : SL19Cur → Option (Int × SL19Cur)) (spec_l19Take : SL19Cur → Int → Option (ByteArray × SL19Cur)) (spec_l19Var : SL19Cur → Option (Int × SL19Cur)) (spec_ReadThing : ByteArray → Option (SThing × Bool)) (spec_RecText : SRec → Option (ByteArray × Bool)) (text_0 : ByteArray) : Option (SRec × Bool) :=
  (spec_l19One (⟨text_0, (0 : Int), false⟩ : SL19Cur)).bind fun r0 =>
  bif (r0.1 == 1) then
    (spec_l19Take r0.2 (32 : Int)).bind fun r1 =>
    (spec_RecText (⟨r0.1, r1.1, (0 : Int), (⟨(0 : Int), (0 : Int), false, false, false, false, (⟨#[]⟩ : ByteArray), (0 : Int)⟩ : SThing)⟩ : SRec)).bind fun r2 =>
    bif r1.2.fBad then
      some ((⟨(0 : Int), (⟨#[]⟩ : ByteArray), (0 : Int), (⟨(0 : Int), (0 : Int), false, false, false, false, (⟨#[]⟩ : ByteArray), (0 : Int)⟩ : SThing)⟩ : SRec), false)
    else
      bif (!r2.2) then
        some ((⟨(0 : Int), (⟨#[]⟩ : ByteArray), (0 : Int), (⟨(0 : Int), (0 : Int), false, false, false, false, (⟨#[]⟩ : ByteArray), (0 : Int)⟩ : SThing)⟩ : SRec), false)
      else
        bif (!((ByteArray.toList r2.1) == (ByteArray.toList text_0))) then
          some ((⟨(0 : Int), (⟨#[]⟩ : ByteArray), (0 : Int), (⟨(0 : Int), (0 : Int), false, false, false, false, (⟨#[]⟩ : ByteArray), (0 : Int)⟩ : SThing)⟩ : SRec), false)
        else
          some ((⟨r0.1, r1.1, (0 : Int), (⟨(0 : Int), (0 : Int), false, false, false, false, (⟨#[]⟩ : ByteArray), (0 : Int)⟩ : SThing)⟩ : SRec), true)
  else
    bif (r0.1 == 2) then
      bif (r0.1 == 2) then
        (spec_l19Var r0.2).bind fun r3 =>
        (spec_RecText (⟨r0.1, (⟨#[]⟩ : ByteArray), r3.1, (⟨(0 : Int), (0 : Int), false, false, false, false, (⟨#[]⟩ : ByteArray), (0 : Int)⟩ : SThing)⟩ : SRec)).bind fun r4 =>
        bif r3.2.fBad then
          some ((⟨(0 : Int), (⟨#[]⟩ : ByteArray), (0 : Int), (⟨(0 : Int), (0 : Int), false, false, false, false, (⟨#[]⟩ : ByteArray), (0 : Int)⟩ : SThing)⟩ : SRec), false)
        else
          bif (!r4.2) then
            some ((⟨(0 : Int), (⟨#[]⟩ : ByteArray), (0 : Int), (⟨(0 : Int), (0 : Int), false, false, false, false, (⟨#[]⟩ : ByteArray), (0 : Int)⟩ : SThing)⟩ : SRec), false)
          else
            bif (!((ByteArray.toList r4.1) == (ByteArray.toList text_0))) then
              some ((⟨(0 : Int), (⟨#[]⟩ : ByteArray), (0 : Int), (⟨(0 : Int), (0 : Int), false, false, false, false, (⟨#[]⟩ : ByteArray), (0 : Int)⟩ : SThing)⟩ : SRec), false)
            else
              some ((⟨r0.1, (⟨#[]⟩ : ByteArray), r3.1, (⟨(0 : Int), (0 : Int), false, false, false, false, (⟨#[]⟩ : ByteArray), (0 : Int)⟩ : SThing)⟩ : SRec), true)
      else
        bif (r0.1 == 3) then
          bif ((decide ((0 : Int) ≤ (1 : Int))) && (decide (1 ≤ (text_0.size : Int)))) then
          (spec_ReadThing (text_0.extract (1 : Int).toNat text_0.size)).bind fun r5 =>
          (spec_RecText (⟨r0.1, (⟨#[]⟩ : ByteArray), (0 : Int), r5.1⟩ : SRec)).bind fun r6 =>
          bif r0.2.fBad then
            some ((⟨(0 : Int), (⟨#[]⟩ : ByteArray), (0 : Int), (⟨(0 : Int), (0 : Int), false, false, false, false, (⟨#[]⟩ : ByteArray), (0 : Int)⟩ : SThing)⟩ : SRec), false)
          else
            bif (!r6.2) then
              some ((⟨(0 : Int), (⟨#[]⟩ : ByteArray), (0 : Int), (⟨(0 : Int), (0 : Int), false, false, false, false, (⟨#[]⟩ : ByteArray), (0 : Int)⟩ : SThing)⟩ : SRec), false)
            else
              bif (!((ByteArray.toList r6.1) == (ByteArray.toList text_0))) then
                some ((⟨(0 : Int), (⟨#[]⟩ : ByteArray), (0 : Int), (⟨(0 : Int), (0 : Int), false, false, false, false, (⟨#[]⟩ : ByteArray), (0 : Int)⟩ : SThing)⟩ : SRec), false)
              else
                some ((⟨r0.1, (⟨#[]⟩ : ByteArray), (0 : Int), r5.1⟩ : SRec), true)
          else none
        else
          (spec_RecText (⟨r0.1, (⟨#[]⟩ : ByteArray), (0 : Int), (⟨(0 : Int), (0 : Int), false, false, false, false, (⟨#[]⟩ : ByteArray), (0 : Int)⟩ : SThing)⟩ : SRec)).bind fun r7 =>
          bif r0.2.fBad then
            some ((⟨(0 : Int), (⟨#[]⟩ : ByteArray), (0 : Int), (⟨(0 : Int), (0 : Int), false, false, false, false, (⟨#[]⟩ : ByteArray), (0 : Int)⟩ : SThing)⟩ : SRec), false)
          else
            bif (!r7.2) then
              some ((⟨(0 : Int), (⟨#[]⟩ : ByteArray), (0 : Int), (⟨(0 : Int), (0 : Int), false, false, false, false, (⟨#[]⟩ : ByteArray), (0 : Int)⟩ : SThing)⟩ : SRec), false)
            else
              bif (!((ByteArray.toList r7.1) == (ByteArray.toList text_0))) then
                some ((⟨(0 : Int), (⟨#[]⟩ : ByteArray), (0 : Int), (⟨(0 : Int), (0 : Int), false, false, false, false, (⟨#[]⟩ : ByteArray), (0 : Int)⟩ : SThing)⟩ : SRec), false)
              else
                some ((⟨r0.1, (⟨#[]⟩ : ByteArray), (0 : Int), (⟨(0 : Int), (0 : Int), false, false, false, false, (⟨#[]⟩ : ByteArray), (0 : Int)⟩ : SThing)⟩ : SRec), true)
    else
      bif (r0.1 == 4) then
        (spec_l19Var r0.2).bind fun r8 =>
        (spec_RecText (⟨r0.1, (⟨#[]⟩ : ByteArray), r8.1, (⟨(0 : Int), (0 : Int), false, false, false, false, (⟨#[]⟩ : ByteArray), (0 : Int)⟩ : SThing)⟩ : SRec)).bind fun r9 =>
        bif r8.2.fBad then
          some ((⟨(0 : Int), (⟨#[]⟩ : ByteArray), (0 : Int), (⟨(0 : Int), (0 : Int), false, false, false, false, (⟨#[]⟩ : ByteArray), (0 : Int)⟩ : SThing)⟩ : SRec), false)
        else
          bif (!r9.2) then
            some ((⟨(0 : Int), (⟨#[]⟩ : ByteArray), (0 : Int), (⟨(0 : Int), (0 : Int), false, false, false, false, (⟨#[]⟩ : ByteArray), (0 : Int)⟩ : SThing)⟩ : SRec), false)
          else
            bif (!((ByteArray.toList r9.1) == (ByteArray.toList text_0))) then
              some ((⟨(0 : Int), (⟨#[]⟩ : ByteArray), (0 : Int), (⟨(0 : Int), (0 : Int), false, false, false, false, (⟨#[]⟩ : ByteArray), (0 : Int)⟩ : SThing)⟩ : SRec), false)
            else
              some ((⟨r0.1, (⟨#[]⟩ : ByteArray), r8.1, (⟨(0 : Int), (0 : Int), false, false, false, false, (⟨#[]⟩ : ByteArray), (0 : Int)⟩ : SThing)⟩ : SRec), true)
      else
        bif (r0.1 == 3) then
          bif ((decide ((0 : Int) ≤ (1 : Int))) && (decide (1 ≤ (text_0.size : Int)))) then
          (spec_ReadThing (text_0.extract (1 : Int).toNat text_0.size)).bind fun r10 =>
          (spec_RecText (⟨r0.1, (⟨#[]⟩ : ByteArray), (0 : Int), r10.1⟩ : SRec)).bind fun r11 =>
          bif r0.2.fBad then
            some ((⟨(0 : Int), (⟨#[]⟩ : ByteArray), (0 : Int), (⟨(0 : Int), (0 : Int), false, false, false, false, (⟨#[]⟩ : ByteArray), (0 : Int)⟩ : SThing)⟩ : SRec), false)
          else
            bif (!r11.2) then
              some ((⟨(0 : Int), (⟨#[]⟩ : ByteArray), (0 : Int), (⟨(0 : Int), (0 : Int), false, false, false, false, (⟨#[]⟩ : ByteArray), (0 : Int)⟩ : SThing)⟩ : SRec), false)
            else
              bif (!((ByteArray.toList r11.1) == (ByteArray.toList text_0))) then
                some ((⟨(0 : Int), (⟨#[]⟩ : ByteArray), (0 : Int), (⟨(0 : Int), (0 : Int), false, false, false, false, (⟨#[]⟩ : ByteArray), (0 : Int)⟩ : SThing)⟩ : SRec), false)
              else
                some ((⟨r0.1, (⟨#[]⟩ : ByteArray), (0 : Int), r10.1⟩ : SRec), true)
          else none
        else
          (spec_RecText (⟨r0.1, (⟨#[]⟩ : ByteArray), (0 : Int), (⟨(0 : Int), (0 : Int), false, false, false, false, (⟨#[]⟩ : ByteArray), (0 : Int)⟩ : SThing)⟩ : SRec)).bind fun r12 =>
          bif r0.2.fBad then
            some ((⟨(0 : Int), (⟨#[]⟩ : ByteArray), (0 : Int), (⟨(0 : Int), (0 : Int), false, false, false, false, (⟨#[]⟩ : ByteArray), (0 : Int)⟩ : SThing)⟩ : SRec), false)
          else
            bif (!r12.2) then
              some ((⟨(0 : Int), (⟨#[]⟩ : ByteArray), (0 : Int), (⟨(0 : Int), (0 : Int), false, false, false, false, (⟨#[]⟩ : ByteArray), (0 : Int)⟩ : SThing)⟩ : SRec), false)
            else
              bif (!((ByteArray.toList r12.1) == (ByteArray.toList text_0))) then
                some ((⟨(0 : Int), (⟨#[]⟩ : ByteArray), (0 : Int), (⟨(0 : Int), (0 : Int), false, false, false, false, (⟨#[]⟩ : ByteArray), (0 : Int)⟩ : SThing)⟩ : SRec), false)
              else
                some ((⟨r0.1, (⟨#[]⟩ : ByteArray), (0 : Int), (⟨(0 : Int), (0 : Int), false, false, false, false, (⟨#[]⟩ : ByteArray), (0 : Int)⟩ : SThing)⟩ : SRec), true)
noncomputable def spec_ReadRec (text_0 : ByteArray) : Option (SRec × Bool) := E_spec_ReadRec spec_l19One spec_l19Take spec_l19Var spec_ReadThing spec_RecText text_0
theorem e_spec_ReadRec (spec_l19One : SL19Cur → Option (Int × SL19Cur)) (spec_l19Take : SL19Cur → Int → Option (ByteArray × SL19Cur)) (spec_l19Var : SL19Cur → Option (Int × SL19Cur)) (spec_ReadThing : ByteArray → Option (SThing × Bool)) (spec_RecText : SRec → Option (ByteArray × Bool)) : EntryIs0 ctx PP 43 [] [(73, H_spec_l19One spec_l19One), (77, H_spec_l19Take spec_l19Take), (72, H_spec_l19Var spec_l19Var), (41, H_spec_ReadThing spec_ReadThing), (36, H_spec_RecText spec_RecText)] cv6 cv55 (fun a => E_spec_ReadRec spec_l19One spec_l19Take spec_l19Var spec_ReadThing spec_RecText a) := fun a => by kernel_rfl
theorem ok_spec_ReadRec : Tells ctx PP 43 cv6 cv55 (fun a => spec_ReadRec a) := fn_ok0 (hl_cons h_spec_l19One (hl_cons h_spec_l19Take (hl_cons h_spec_l19Var (hl_cons h_spec_ReadThing (hl_cons h_spec_RecText hl_nil))))) Try.func43 (e_spec_ReadRec spec_l19One spec_l19Take spec_l19Var spec_ReadThing spec_RecText)
noncomputable def H_spec_ReadRec {γ : Type} (F : ByteArray → Option (SRec × Bool)) : Hd ctx γ := hdl cv6.dec (fun a => F a) cv55.enc
theorem h_spec_ReadRec {γ : Type} : HdOk (γ := γ) PP 43 (H_spec_ReadRec spec_ReadRec) := hd_ok ok_spec_ReadRec
noncomputable def E_impl_in  (n_0 : Int) (low_1 : Int) (high_2 : Int) : Option Bool :=
  bif (decide (n_0 ≥ low_1)) then
    some (decide (n_0 ≤ high_2))
  else
    some false
noncomputable def impl_in (n_0 : Int) (low_1 : Int) (high_2 : Int) : Option Bool := E_impl_in  n_0 low_1 high_2
theorem e_impl_in  : EntryIs0 ctx PP 71 [] [] cv3 cv4 (fun a => E_impl_in  a.1 a.2.1 a.2.2) := fun a => by kernel_rfl
theorem ok_impl_in : Tells ctx PP 71 cv3 cv4 (fun a => impl_in a.1 a.2.1 a.2.2) := fn_ok0 hl_nil Try.func71 (e_impl_in )
noncomputable def H_impl_in {γ : Type} (F : Int → Int → Int → Option Bool) : Hd ctx γ := hdl cv3.dec (fun a => F a.1 a.2.1 a.2.2) cv4.enc
theorem h_impl_in {γ : Type} : HdOk (γ := γ) PP 71 (H_impl_in impl_in) := hd_ok ok_impl_in
noncomputable def todo_impl_ReadVar_0 : List Go.Item := [.code (cAt (bodyOf Try.f78) [1, 1, 1, 0, 1, 0, 0, 0, 0]), .code (cAt (bodyOf Try.f78) [1, 1, 1, 0, 1, 0, 0, 0, 1]), .code (cAt (bodyOf Try.f78) [1, 1, 1, 0, 1, 0, 0, 1]), .inLoop (cAt (bodyOf Try.f78) [1, 1, 1, 0, 1, 0, 0]), .inBlock 0, .code (cAt (bodyOf Try.f78) [1, 1, 1, 1])]
inductive St_impl_ReadVar where
  | c0 (text_0 : ByteArray) (at_1 : Int) (n_7 : Int) (k_8 : Int)
noncomputable def at_impl_ReadVar : St_impl_ReadVar → LI
  | .c0 text_0 at_1 n_7 k_8 => (todo_impl_ReadVar_0, [(0, [.one (.str text_0)]), (1, [.one (.int .i64 at_1)]), (7, [.one (.int .i64 n_7)]), (8, [.one (.int .i64 k_8)])], [])
noncomputable def E_impl_ReadVar (impl_in : Int → Int → Int → Option Bool) (k : St_impl_ReadVar → Option (Int × Int × Bool)) (text_0 : ByteArray) (at_1 : Int) : Option (Int × Int × Bool) :=
  (impl_in at_1 (0 : Int) (text_0.size : Int)).bind fun r0 =>
  bif (!r0) then
    some ((0 : Int), ((0 : Int), false))
  else
    k (.c0 text_0 at_1 (0 : Int) (0 : Int))
noncomputable def B_impl_ReadVar (impl_in : Int → Int → Int → Option Bool) (k : St_impl_ReadVar → Option (Int × Int × Bool)) : St_impl_ReadVar → Option (Int × Int × Bool)
  | .c0 text_0 at_1 n_7 k_8 =>
    bif (decide (k_8 < 5)) then
      bif (decide ((w64 (at_1 + k_8)) < (text_0.size : Int))) then
        bif ((decide (0 ≤ (w64 (at_1 + k_8)))) && (decide ((w64 (at_1 + k_8)) < (text_0.size : Int)))) then
        bif (decide (0 ≤ (w64 (7 * k_8)))) then
        bif (decide ((w64 (bt text_0 (w64 (at_1 + k_8)))) < 128)) then
          bif ((w64 (bt text_0 (w64 (at_1 + k_8)))) == 0) then
            bif (decide (k_8 > 0)) then
              some ((0 : Int), ((0 : Int), false))
            else
              bif (decide ((w64 (n_7 + (w64 (((w64 (bt text_0 (w64 (at_1 + k_8)))).tmod 128) * (2 ^ (Min.min (w64 (7 * k_8)).toNat (IntKind.bits IntKind.i64))))))) > 1000000000)) then
                some ((0 : Int), ((0 : Int), false))
              else
                some ((w64 (n_7 + (w64 (((w64 (bt text_0 (w64 (at_1 + k_8)))).tmod 128) * (2 ^ (Min.min (w64 (7 * k_8)).toNat (IntKind.bits IntKind.i64))))))), ((w64 ((w64 (at_1 + k_8)) + 1)), true))
          else
            bif (decide ((w64 (n_7 + (w64 (((w64 (bt text_0 (w64 (at_1 + k_8)))).tmod 128) * (2 ^ (Min.min (w64 (7 * k_8)).toNat (IntKind.bits IntKind.i64))))))) > 1000000000)) then
              some ((0 : Int), ((0 : Int), false))
            else
              some ((w64 (n_7 + (w64 (((w64 (bt text_0 (w64 (at_1 + k_8)))).tmod 128) * (2 ^ (Min.min (w64 (7 * k_8)).toNat (IntKind.bits IntKind.i64))))))), ((w64 ((w64 (at_1 + k_8)) + 1)), true))
        else
          k (.c0 text_0 at_1 (w64 (n_7 + (w64 (((w64 (bt text_0 (w64 (at_1 + k_8)))).tmod 128) * (2 ^ (Min.min (w64 (7 * k_8)).toNat (IntKind.bits IntKind.i64))))))) (w64 (k_8 + 1)))
        else none
        else none
      else
        some ((0 : Int), ((0 : Int), false))
    else
      some ((0 : Int), ((0 : Int), false))
noncomputable def L_impl_ReadVar : Nat → St_impl_ReadVar → Option (Int × Int × Bool)
  | 0, _ => none
  | m + 1, s => B_impl_ReadVar impl_in (L_impl_ReadVar m) s
noncomputable def impl_ReadVar (text_0 : ByteArray) (at_1 : Int) : Option (Int × Int × Bool) := E_impl_ReadVar impl_in (L_impl_ReadVar gas) text_0 at_1
theorem e_impl_ReadVar (impl_in : Int → Int → Int → Option Bool) : EntryIs ctx PP 78 [] [(71, H_impl_in impl_in)] cv45 cv46 at_impl_ReadVar (fun k a => E_impl_ReadVar impl_in k a.1 a.2) := fun stop a => by kernel_rfl
theorem b_impl_ReadVar (impl_in : Int → Int → Int → Option Bool) : CutIs ctx PP 78 Try.f78 [] [(71, H_impl_in impl_in)] cv46 at_impl_ReadVar (B_impl_ReadVar impl_in) := fun stop s => by cases s <;> kernel_rfl
theorem i_impl_ReadVar : ∀ s s', at_impl_ReadVar s = at_impl_ReadVar s' → s = s' := by
  intro s s' h
  cases s with
  | c0 v0 v1 v2 v3 => cases s' with
    | c0 w0 w1 w2 w3 => cases h; rfl
theorem ok_impl_ReadVar : Tells ctx PP 78 cv45 cv46 (fun a => impl_ReadVar a.1 a.2) := fn_ok (hl_cons h_impl_in hl_nil) Try.func78 i_impl_ReadVar (fun _ => rfl) (fun _ _ => rfl) (b_impl_ReadVar impl_in) (e_impl_ReadVar impl_in) gas
noncomputable def H_impl_ReadVar {γ : Type} (F : ByteArray → Int → Option (Int × Int × Bool)) : Hd ctx γ := hdl cv45.dec (fun a => F a.1 a.2) cv46.enc
theorem h_impl_ReadVar {γ : Type} : HdOk (γ := γ) PP 78 (H_impl_ReadVar impl_ReadVar) := hd_ok ok_impl_ReadVar
noncomputable def E_impl_fields_num (impl_ReadVar : ByteArray → Int → Option (Int × Int × Bool)) (f_0 : SFields) : Option (Int × SFields) :=
  (impl_ReadVar f_0.fText f_0.fAt).bind fun r0 =>
  bif (!r0.2.2) then
    some ((0 : Int), (⟨f_0.fText, f_0.fAt, true⟩ : SFields))
  else
    some (r0.1, (⟨f_0.fText, r0.2.1, f_0.fBad⟩ : SFields))
noncomputable def impl_fields_num (f_0 : SFields) : Option (Int × SFields) := E_impl_fields_num impl_ReadVar f_0
theorem e_impl_fields_num (impl_ReadVar : ByteArray → Int → Option (Int × Int × Bool)) : EntryIs0 ctx PP 75 [0] [(78, H_impl_ReadVar impl_ReadVar)] cv51 cv52 (fun a => E_impl_fields_num impl_ReadVar a) := fun a => by kernel_rfl
theorem ok_impl_fields_num : Tells ctx PP 75 cv51 cv52 (fun a => impl_fields_num a) := fn_ok0 (hl_cons h_impl_ReadVar hl_nil) Try.func75 (e_impl_fields_num impl_ReadVar)
noncomputable def H_impl_fields_num {γ : Type} (F : SFields → Option (Int × SFields)) : Hd ctx γ := hdl cv51.dec (fun a => F a) cv52.enc
theorem h_impl_fields_num {γ : Type} : HdOk (γ := γ) PP 75 (H_impl_fields_num impl_fields_num) := hd_ok ok_impl_fields_num
noncomputable def E_impl_ReadShort (impl_ReadVar : ByteArray → Int → Option (Int × Int × Bool)) (text_0 : ByteArray) (at_1 : Int) : Option (ByteArray × Int × Bool) :=
  (impl_ReadVar text_0 at_1).bind fun r0 =>
  bif (!r0.2.2) then
    some ((⟨#[]⟩ : ByteArray), ((0 : Int), false))
  else
    bif (decide (r0.1 > 20000)) then
      some ((⟨#[]⟩ : ByteArray), ((0 : Int), false))
    else
      bif (decide (r0.1 > (w64 ((text_0.size : Int) - r0.2.1)))) then
        some ((⟨#[]⟩ : ByteArray), ((0 : Int), false))
      else
        bif (((decide (0 ≤ r0.2.1)) && (decide (r0.2.1 ≤ (w64 (r0.2.1 + r0.1))))) && (decide ((w64 (r0.2.1 + r0.1)) ≤ (text_0.size : Int)))) then
        some ((text_0.extract r0.2.1.toNat (w64 (r0.2.1 + r0.1)).toNat), ((w64 (r0.2.1 + r0.1)), true))
        else none
noncomputable def impl_ReadShort (text_0 : ByteArray) (at_1 : Int) : Option (ByteArray × Int × Bool) := E_impl_ReadShort impl_ReadVar text_0 at_1
theorem e_impl_ReadShort (impl_ReadVar : ByteArray → Int → Option (Int × Int × Bool)) : EntryIs0 ctx PP 80 [] [(78, H_impl_ReadVar impl_ReadVar)] cv45 cv53 (fun a => E_impl_ReadShort impl_ReadVar a.1 a.2) := fun a => by kernel_rfl
theorem ok_impl_ReadShort : Tells ctx PP 80 cv45 cv53 (fun a => impl_ReadShort a.1 a.2) := fn_ok0 (hl_cons h_impl_ReadVar hl_nil) Try.func80 (e_impl_ReadShort impl_ReadVar)
noncomputable def H_impl_ReadShort {γ : Type} (F : ByteArray → Int → Option (ByteArray × Int × Bool)) : Hd ctx γ := hdl cv45.dec (fun a => F a.1 a.2) cv53.enc
theorem h_impl_ReadShort {γ : Type} : HdOk (γ := γ) PP 80 (H_impl_ReadShort impl_ReadShort) := hd_ok ok_impl_ReadShort
noncomputable def E_impl_fields_short (impl_ReadShort : ByteArray → Int → Option (ByteArray × Int × Bool)) (f_0 : SFields) : Option (ByteArray × SFields) :=
  (impl_ReadShort f_0.fText f_0.fAt).bind fun r0 =>
  bif (!r0.2.2) then
    some ((⟨#[]⟩ : ByteArray), (⟨f_0.fText, f_0.fAt, true⟩ : SFields))
  else
    some (r0.1, (⟨f_0.fText, r0.2.1, f_0.fBad⟩ : SFields))
noncomputable def impl_fields_short (f_0 : SFields) : Option (ByteArray × SFields) := E_impl_fields_short impl_ReadShort f_0
theorem e_impl_fields_short (impl_ReadShort : ByteArray → Int → Option (ByteArray × Int × Bool)) : EntryIs0 ctx PP 76 [0] [(80, H_impl_ReadShort impl_ReadShort)] cv51 cv54 (fun a => E_impl_fields_short impl_ReadShort a) := fun a => by kernel_rfl
theorem ok_impl_fields_short : Tells ctx PP 76 cv51 cv54 (fun a => impl_fields_short a) := fn_ok0 (hl_cons h_impl_ReadShort hl_nil) Try.func76 (e_impl_fields_short impl_ReadShort)
noncomputable def H_impl_fields_short {γ : Type} (F : SFields → Option (ByteArray × SFields)) : Hd ctx γ := hdl cv51.dec (fun a => F a) cv54.enc
theorem h_impl_fields_short {γ : Type} : HdOk (γ := γ) PP 76 (H_impl_fields_short impl_fields_short) := hd_ok ok_impl_fields_short
noncomputable def E_impl_ThingOk (impl_in : Int → Int → Int → Option Bool) (x_0 : SThing) : Option Bool :=
  (impl_in x_0.fId (1 : Int) (1000 : Int)).bind fun r0 =>
  bif (!r0) then
    some false
  else
    (impl_in x_0.fNext (0 : Int) (16 : Int)).bind fun r1 =>
    bif (!r1) then
      some false
    else
      bif (x_0.fKind != 2) then
        bif (x_0.fNext != 0) then
          some false
        else
          bif x_0.fSigns then
            some false
          else
            bif (x_0.fKind != 1) then
              bif x_0.fWraps then
                some false
              else
                bif (x_0.fKind == 1) then
                  bif (x_0.fKind == 1) then
                    some ((x_0.fValue.size : Int) == 32)
                  else
                    bif (x_0.fKind == 3) then
                      some (decide ((x_0.fValue.size : Int) ≤ 100))
                    else
                      some false
                else
                  bif (x_0.fKind == 2) then
                    some ((x_0.fValue.size : Int) == 32)
                  else
                    bif (x_0.fKind == 3) then
                      some (decide ((x_0.fValue.size : Int) ≤ 100))
                    else
                      some false
            else
              bif (x_0.fKind == 1) then
                bif (x_0.fKind == 1) then
                  some ((x_0.fValue.size : Int) == 32)
                else
                  bif (x_0.fKind == 3) then
                    some (decide ((x_0.fValue.size : Int) ≤ 100))
                  else
                    some false
              else
                bif (x_0.fKind == 2) then
                  some ((x_0.fValue.size : Int) == 32)
                else
                  bif (x_0.fKind == 3) then
                    some (decide ((x_0.fValue.size : Int) ≤ 100))
                  else
                    some false
      else
        bif (x_0.fKind != 1) then
          bif x_0.fWraps then
            some false
          else
            bif (x_0.fKind == 1) then
              bif (x_0.fKind == 1) then
                some ((x_0.fValue.size : Int) == 32)
              else
                bif (x_0.fKind == 3) then
                  some (decide ((x_0.fValue.size : Int) ≤ 100))
                else
                  some false
            else
              bif (x_0.fKind == 2) then
                some ((x_0.fValue.size : Int) == 32)
              else
                bif (x_0.fKind == 3) then
                  some (decide ((x_0.fValue.size : Int) ≤ 100))
                else
                  some false
        else
          bif (x_0.fKind == 1) then
            bif (x_0.fKind == 1) then
              some ((x_0.fValue.size : Int) == 32)
            else
              bif (x_0.fKind == 3) then
                some (decide ((x_0.fValue.size : Int) ≤ 100))
              else
                some false
          else
            bif (x_0.fKind == 2) then
              some ((x_0.fValue.size : Int) == 32)
            else
              bif (x_0.fKind == 3) then
                some (decide ((x_0.fValue.size : Int) ≤ 100))
              else
                some false
noncomputable def impl_ThingOk (x_0 : SThing) : Option Bool := E_impl_ThingOk impl_in x_0
theorem e_impl_ThingOk (impl_in : Int → Int → Int → Option Bool) : EntryIs0 ctx PP 51 [] [(71, H_impl_in impl_in)] cv2 cv4 (fun a => E_impl_ThingOk impl_in a) := fun a => by kernel_rfl
theorem ok_impl_ThingOk : Tells ctx PP 51 cv2 cv4 (fun a => impl_ThingOk a) := fn_ok0 (hl_cons h_impl_in hl_nil) Try.func51 (e_impl_ThingOk impl_in)
noncomputable def H_impl_ThingOk {γ : Type} (F : SThing → Option Bool) : Hd ctx γ := hdl cv2.dec (fun a => F a) cv4.enc
theorem h_impl_ThingOk {γ : Type} : HdOk (γ := γ) PP 51 (H_impl_ThingOk impl_ThingOk) := hd_ok ok_impl_ThingOk
noncomputable def todo_impl_varText_0 : List Go.Item := [.code (cAt (bodyOf Try.f52) [1, 1, 0, 0, 0, 0, 0]), .code (cAt (bodyOf Try.f52) [1, 1, 0, 0, 0, 0, 1]), .code (cAt (bodyOf Try.f52) [1, 1, 0, 0, 0, 1]), .inLoop (cAt (bodyOf Try.f52) [1, 1, 0, 0, 0]), .inBlock 0, .code (cAt (bodyOf Try.f52) [1, 1, 1])]
inductive St_impl_varText where
  | c0 (n_0 : Int) (out_3 : (List Int))
noncomputable def at_impl_varText : St_impl_varText → LI
  | .c0 n_0 out_3 => (todo_impl_varText_0, [(0, [.one (.int .i64 n_0)]), (3, [.one (.own 240)])], [(240, .sl 5 out_3)])
noncomputable def E_impl_varText  (k : St_impl_varText → Option ByteArray) (n_0 : Int) : Option ByteArray :=
  k (.c0 n_0 [])
noncomputable def B_impl_varText  (k : St_impl_varText → Option ByteArray) : St_impl_varText → Option ByteArray
  | .c0 n_0 out_3 =>
    bif (decide (n_0 > 127)) then
      bif (decide (((out_3.length + 1) * 1) ≤ 140737488355328)) then
      k (.c0 (w64 (n_0.tdiv 128)) (out_3 ++ [(w8 (w64 (128 + (n_0.tmod 128))))]))
      else none
    else
      bif (decide (((out_3.length + 1) * 1) ≤ 140737488355328)) then
      some (ofBytes (out_3 ++ [(w8 n_0)]))
      else none
noncomputable def L_impl_varText : Nat → St_impl_varText → Option ByteArray
  | 0, _ => none
  | m + 1, s => B_impl_varText  (L_impl_varText m) s
noncomputable def impl_varText (n_0 : Int) : Option ByteArray := E_impl_varText  (L_impl_varText gas) n_0
theorem e_impl_varText  : EntryIs ctx PP 52 [] [] cv1 cv6 at_impl_varText (fun k a => E_impl_varText  k a) := fun stop a => by kernel_rfl
theorem b_impl_varText  : CutIs ctx PP 52 Try.f52 [] [] cv6 at_impl_varText (B_impl_varText ) := fun stop s => by cases s <;> kernel_rfl
theorem i_impl_varText : ∀ s s', at_impl_varText s = at_impl_varText s' → s = s' := by
  intro s s' h
  cases s with
  | c0 v0 v1 => cases s' with
    | c0 w0 w1 => cases h; rfl
theorem ok_impl_varText : Tells ctx PP 52 cv1 cv6 (fun a => impl_varText a) := fn_ok hl_nil Try.func52 i_impl_varText (fun _ => rfl) (fun _ _ => rfl) (b_impl_varText ) (e_impl_varText ) gas
noncomputable def H_impl_varText {γ : Type} (F : Int → Option ByteArray) : Hd ctx γ := hdl cv1.dec (fun a => F a) cv6.enc
theorem h_impl_varText {γ : Type} : HdOk (γ := γ) PP 52 (H_impl_varText impl_varText) := hd_ok ok_impl_varText
noncomputable def E_impl_oneByte  (n_0 : Int) : Option ByteArray :=
  some (ofBytes [(w8 n_0)])
noncomputable def impl_oneByte (n_0 : Int) : Option ByteArray := E_impl_oneByte  n_0
theorem e_impl_oneByte  : EntryIs0 ctx PP 53 [] [] cv1 cv6 (fun a => E_impl_oneByte  a) := fun a => by kernel_rfl
theorem ok_impl_oneByte : Tells ctx PP 53 cv1 cv6 (fun a => impl_oneByte a) := fn_ok0 hl_nil Try.func53 (e_impl_oneByte )
noncomputable def H_impl_oneByte {γ : Type} (F : Int → Option ByteArray) : Hd ctx γ := hdl cv1.dec (fun a => F a) cv6.enc
theorem h_impl_oneByte {γ : Type} : HdOk (γ := γ) PP 53 (H_impl_oneByte impl_oneByte) := hd_ok ok_impl_oneByte
noncomputable def todo_impl_flags_0 : List Go.Item := [.code (cAt (bodyOf Try.f54) [1, 1, 0, 1, 0, 0, 0]), .code (cAt (bodyOf Try.f54) [1, 1, 0, 1, 0, 0, 1]), .inLoop (cAt (bodyOf Try.f54) [1, 1, 0, 1, 0, 0]), .inBlock 0, .code (cAt (bodyOf Try.f54) [1, 1, 1])]
inductive St_impl_flags where
  | c0 (n_3 : Int) (v_15 : Int) (v_16 : Int) (v_14 : (List Bool))
noncomputable def at_impl_flags : St_impl_flags → LI
  | .c0 n_3 v_15 v_16 v_14 => (todo_impl_flags_0, [(3, [.one (.int .i64 n_3)]), (14, [.one (.own 944)]), (15, [.one (.int .i64 v_15)]), (16, [.one (.int .i64 v_16)])], [(944, .sl 4 v_14)])
noncomputable def E_impl_flags  (k : St_impl_flags → Option Int) (x_0 : SThing) : Option Int :=
  k (.c0 (0 : Int) ((4 : Nat) : Int) (0 : Int) [x_0.fHidden, x_0.fFixed, x_0.fSigns, x_0.fWraps])
noncomputable def B_impl_flags  (k : St_impl_flags → Option Int) : St_impl_flags → Option Int
  | .c0 n_3 v_15 v_16 v_14 =>
    bif (decide (v_16 < v_15)) then
      bif ((decide (0 ≤ v_16)) && (decide (v_16 < (v_14.length : Int)))) then
      bif (v_14.getD v_16.toNat false) then
        bif (decide (0 ≤ v_16)) then
        k (.c0 (w64 (((BitVec.toNat ((BitVec.ofInt (IntKind.bits IntKind.i64) n_3) ||| (BitVec.ofInt (IntKind.bits IntKind.i64) (w64 (1 * (2 ^ (Min.min v_16.toNat (IntKind.bits IntKind.i64)))))))) : Nat) : Int)) v_15 (w64 (v_16 + 1)) v_14)
        else none
      else
        k (.c0 n_3 v_15 (w64 (v_16 + 1)) v_14)
      else none
    else
      some n_3
noncomputable def L_impl_flags : Nat → St_impl_flags → Option Int
  | 0, _ => none
  | m + 1, s => B_impl_flags  (L_impl_flags m) s
noncomputable def impl_flags (x_0 : SThing) : Option Int := E_impl_flags  (L_impl_flags gas) x_0
theorem e_impl_flags  : EntryIs ctx PP 54 [] [] cv2 cv1 at_impl_flags (fun k a => E_impl_flags  k a) := fun stop a => by kernel_rfl
theorem b_impl_flags  : CutIs ctx PP 54 Try.f54 [] [] cv1 at_impl_flags (B_impl_flags ) := fun stop s => by cases s <;> kernel_rfl
theorem i_impl_flags : ∀ s s', at_impl_flags s = at_impl_flags s' → s = s' := by
  intro s s' h
  cases s with
  | c0 v0 v1 v2 v3 => cases s' with
    | c0 w0 w1 w2 w3 => cases h; rfl
theorem ok_impl_flags : Tells ctx PP 54 cv2 cv1 (fun a => impl_flags a) := fn_ok hl_nil Try.func54 i_impl_flags (fun _ => rfl) (fun _ _ => rfl) (b_impl_flags ) (e_impl_flags ) gas
noncomputable def H_impl_flags {γ : Type} (F : SThing → Option Int) : Hd ctx γ := hdl cv2.dec (fun a => F a) cv1.enc
theorem h_impl_flags {γ : Type} : HdOk (γ := γ) PP 54 (H_impl_flags impl_flags) := hd_ok ok_impl_flags
noncomputable def E_impl_shortText (impl_varText : Int → Option ByteArray) (s_0 : ByteArray) : Option ByteArray :=
  (impl_varText (s_0.size : Int)).bind fun r0 =>
  bif (decide ((r0.size + s_0.size) ≤ 9223372036854775807)) then
  some (r0 ++ s_0)
  else none
noncomputable def impl_shortText (s_0 : ByteArray) : Option ByteArray := E_impl_shortText impl_varText s_0
theorem e_impl_shortText (impl_varText : Int → Option ByteArray) : EntryIs0 ctx PP 55 [] [(52, H_impl_varText impl_varText)] cv6 cv6 (fun a => E_impl_shortText impl_varText a) := fun a => by kernel_rfl
theorem ok_impl_shortText : Tells ctx PP 55 cv6 cv6 (fun a => impl_shortText a) := fn_ok0 (hl_cons h_impl_varText hl_nil) Try.func55 (e_impl_shortText impl_varText)
noncomputable def H_impl_shortText {γ : Type} (F : ByteArray → Option ByteArray) : Hd ctx γ := hdl cv6.dec (fun a => F a) cv6.enc
theorem h_impl_shortText {γ : Type} : HdOk (γ := γ) PP 55 (H_impl_shortText impl_shortText) := hd_ok ok_impl_shortText
noncomputable def E_impl_ThingText (impl_ThingOk : SThing → Option Bool) (impl_varText : Int → Option ByteArray) (impl_oneByte : Int → Option ByteArray) (impl_flags : SThing → Option Int) (impl_shortText : ByteArray → Option ByteArray) (x_0 : SThing) : Option (ByteArray × Bool) :=
  (impl_ThingOk x_0).bind fun r0 =>
  bif (!r0) then
    some ((⟨#[]⟩ : ByteArray), false)
  else
    (impl_varText x_0.fId).bind fun r1 =>
    (impl_oneByte x_0.fKind).bind fun r2 =>
    bif (decide ((r1.size + r2.size) ≤ 9223372036854775807)) then
    (impl_flags x_0).bind fun r3 =>
    (impl_oneByte r3).bind fun r4 =>
    bif (decide (((r1 ++ r2).size + r4.size) ≤ 9223372036854775807)) then
    (impl_shortText x_0.fValue).bind fun r5 =>
    bif (decide ((((r1 ++ r2) ++ r4).size + r5.size) ≤ 9223372036854775807)) then
    (impl_varText x_0.fNext).bind fun r6 =>
    bif (decide (((((r1 ++ r2) ++ r4) ++ r5).size + r6.size) ≤ 9223372036854775807)) then
    some (((((r1 ++ r2) ++ r4) ++ r5) ++ r6), true)
    else none
    else none
    else none
    else none
noncomputable def impl_ThingText (x_0 : SThing) : Option (ByteArray × Bool) := E_impl_ThingText impl_ThingOk impl_varText impl_oneByte impl_flags impl_shortText x_0
theorem e_impl_ThingText (impl_ThingOk : SThing → Option Bool) (impl_varText : Int → Option ByteArray) (impl_oneByte : Int → Option ByteArray) (impl_flags : SThing → Option Int) (impl_shortText : ByteArray → Option ByteArray) : EntryIs0 ctx PP 14 [] [(51, H_impl_ThingOk impl_ThingOk), (52, H_impl_varText impl_varText), (53, H_impl_oneByte impl_oneByte), (54, H_impl_flags impl_flags), (55, H_impl_shortText impl_shortText)] cv2 cv7 (fun a => E_impl_ThingText impl_ThingOk impl_varText impl_oneByte impl_flags impl_shortText a) := fun a => by kernel_rfl
theorem ok_impl_ThingText : Tells ctx PP 14 cv2 cv7 (fun a => impl_ThingText a) := fn_ok0 (hl_cons h_impl_ThingOk (hl_cons h_impl_varText (hl_cons h_impl_oneByte (hl_cons h_impl_flags (hl_cons h_impl_shortText hl_nil))))) Try.func14 (e_impl_ThingText impl_ThingOk impl_varText impl_oneByte impl_flags impl_shortText)
noncomputable def H_impl_ThingText {γ : Type} (F : SThing → Option (ByteArray × Bool)) : Hd ctx γ := hdl cv2.dec (fun a => F a) cv7.enc
theorem h_impl_ThingText {γ : Type} : HdOk (γ := γ) PP 14 (H_impl_ThingText impl_ThingText) := hd_ok ok_impl_ThingText
noncomputable def E_impl_ReadThing (impl_fields_num : SFields → Option (Int × SFields)) (impl_fields_short : SFields → Option (ByteArray × SFields)) (impl_ThingText : SThing → Option (ByteArray × Bool)) (text_0 : ByteArray) : Option (SThing × Bool) :=
  (impl_fields_num (⟨text_0, (0 : Int), false⟩ : SFields)).bind fun r0 =>
  (impl_fields_num r0.2).bind fun r1 =>
  (impl_fields_num r1.2).bind fun r2 =>
  (impl_fields_short r2.2).bind fun r3 =>
  (impl_fields_num r3.2).bind fun r4 =>
  (impl_ThingText (⟨r0.1, r1.1, ((w64 (((BitVec.toNat ((BitVec.ofInt (IntKind.bits IntKind.i64) r2.1) &&& (BitVec.ofInt (IntKind.bits IntKind.i64) (1 : Int)))) : Nat) : Int)) != 0), ((w64 (((BitVec.toNat ((BitVec.ofInt (IntKind.bits IntKind.i64) r2.1) &&& (BitVec.ofInt (IntKind.bits IntKind.i64) (2 : Int)))) : Nat) : Int)) != 0), ((w64 (((BitVec.toNat ((BitVec.ofInt (IntKind.bits IntKind.i64) r2.1) &&& (BitVec.ofInt (IntKind.bits IntKind.i64) (4 : Int)))) : Nat) : Int)) != 0), ((w64 (((BitVec.toNat ((BitVec.ofInt (IntKind.bits IntKind.i64) r2.1) &&& (BitVec.ofInt (IntKind.bits IntKind.i64) (8 : Int)))) : Nat) : Int)) != 0), r3.1, r4.1⟩ : SThing)).bind fun r5 =>
  bif r4.2.fBad then
    some ((⟨(0 : Int), (0 : Int), false, false, false, false, (⟨#[]⟩ : ByteArray), (0 : Int)⟩ : SThing), false)
  else
    bif (!r5.2) then
      some ((⟨(0 : Int), (0 : Int), false, false, false, false, (⟨#[]⟩ : ByteArray), (0 : Int)⟩ : SThing), false)
    else
      bif (!((ByteArray.toList r5.1) == (ByteArray.toList text_0))) then
        some ((⟨(0 : Int), (0 : Int), false, false, false, false, (⟨#[]⟩ : ByteArray), (0 : Int)⟩ : SThing), false)
      else
        some ((⟨r0.1, r1.1, ((w64 (((BitVec.toNat ((BitVec.ofInt (IntKind.bits IntKind.i64) r2.1) &&& (BitVec.ofInt (IntKind.bits IntKind.i64) (1 : Int)))) : Nat) : Int)) != 0), ((w64 (((BitVec.toNat ((BitVec.ofInt (IntKind.bits IntKind.i64) r2.1) &&& (BitVec.ofInt (IntKind.bits IntKind.i64) (2 : Int)))) : Nat) : Int)) != 0), ((w64 (((BitVec.toNat ((BitVec.ofInt (IntKind.bits IntKind.i64) r2.1) &&& (BitVec.ofInt (IntKind.bits IntKind.i64) (4 : Int)))) : Nat) : Int)) != 0), ((w64 (((BitVec.toNat ((BitVec.ofInt (IntKind.bits IntKind.i64) r2.1) &&& (BitVec.ofInt (IntKind.bits IntKind.i64) (8 : Int)))) : Nat) : Int)) != 0), r3.1, r4.1⟩ : SThing), true)
noncomputable def impl_ReadThing (text_0 : ByteArray) : Option (SThing × Bool) := E_impl_ReadThing impl_fields_num impl_fields_short impl_ThingText text_0
theorem e_impl_ReadThing (impl_fields_num : SFields → Option (Int × SFields)) (impl_fields_short : SFields → Option (ByteArray × SFields)) (impl_ThingText : SThing → Option (ByteArray × Bool)) : EntryIs0 ctx PP 42 [] [(75, H_impl_fields_num impl_fields_num), (76, H_impl_fields_short impl_fields_short), (14, H_impl_ThingText impl_ThingText)] cv6 cv38 (fun a => E_impl_ReadThing impl_fields_num impl_fields_short impl_ThingText a) := fun a => by kernel_rfl
theorem ok_impl_ReadThing : Tells ctx PP 42 cv6 cv38 (fun a => impl_ReadThing a) := fn_ok0 (hl_cons h_impl_fields_num (hl_cons h_impl_fields_short (hl_cons h_impl_ThingText hl_nil))) Try.func42 (e_impl_ReadThing impl_fields_num impl_fields_short impl_ThingText)
noncomputable def H_impl_ReadThing {γ : Type} (F : ByteArray → Option (SThing × Bool)) : Hd ctx γ := hdl cv6.dec (fun a => F a) cv38.enc
theorem h_impl_ReadThing {γ : Type} : HdOk (γ := γ) PP 42 (H_impl_ReadThing impl_ReadThing) := hd_ok ok_impl_ReadThing
noncomputable def E_impl_RecText (impl_varText : Int → Option ByteArray) (impl_in : Int → Int → Int → Option Bool) (impl_ThingText : SThing → Option (ByteArray × Bool)) (impl_oneByte : Int → Option ByteArray) (r_0 : SRec) : Option (ByteArray × Bool) :=
  bif (r_0.fKind == 1) then
    bif (!((r_0.fText.size : Int) == 32)) then
      some ((⟨#[]⟩ : ByteArray), false)
    else
      bif (!((r_0.fKind == r_0.fKind) && (((ByteArray.toList r_0.fText) == (ByteArray.toList r_0.fText)) && ((r_0.fNum == 0) && (((r_0.fThing.fId == 0) && ((r_0.fThing.fKind == 0) && ((r_0.fThing.fHidden == false) && ((r_0.fThing.fFixed == false) && ((r_0.fThing.fSigns == false) && ((r_0.fThing.fWraps == false) && (((ByteArray.toList r_0.fThing.fValue) == (ByteArray.toList (⟨#[]⟩ : ByteArray))) && ((r_0.fThing.fNext == 0) && true)))))))) && true))))) then
        some ((⟨#[]⟩ : ByteArray), false)
      else
        (impl_oneByte r_0.fKind).bind fun r0 =>
        bif (decide ((r0.size + r_0.fText.size) ≤ 9223372036854775807)) then
        some ((r0 ++ r_0.fText), true)
        else none
  else
    bif (r_0.fKind == 2) then
      (impl_varText r_0.fNum).bind fun r1 =>
      (impl_in r_0.fNum (0 : Int) (3 : Int)).bind fun r2 =>
      bif (!r2) then
        some ((⟨#[]⟩ : ByteArray), false)
      else
        bif (!((r_0.fKind == r_0.fKind) && (((ByteArray.toList r_0.fText) == (ByteArray.toList (⟨#[]⟩ : ByteArray))) && ((r_0.fNum == r_0.fNum) && (((r_0.fThing.fId == 0) && ((r_0.fThing.fKind == 0) && ((r_0.fThing.fHidden == false) && ((r_0.fThing.fFixed == false) && ((r_0.fThing.fSigns == false) && ((r_0.fThing.fWraps == false) && (((ByteArray.toList r_0.fThing.fValue) == (ByteArray.toList (⟨#[]⟩ : ByteArray))) && ((r_0.fThing.fNext == 0) && true)))))))) && true))))) then
          some ((⟨#[]⟩ : ByteArray), false)
        else
          (impl_oneByte r_0.fKind).bind fun r3 =>
          bif (decide ((r3.size + r1.size) ≤ 9223372036854775807)) then
          some ((r3 ++ r1), true)
          else none
    else
      bif (r_0.fKind == 3) then
        (impl_ThingText r_0.fThing).bind fun r4 =>
        bif (!r4.2) then
          some ((⟨#[]⟩ : ByteArray), false)
        else
          bif (!((r_0.fKind == r_0.fKind) && (((ByteArray.toList r_0.fText) == (ByteArray.toList (⟨#[]⟩ : ByteArray))) && ((r_0.fNum == 0) && (((r_0.fThing.fId == r_0.fThing.fId) && ((r_0.fThing.fKind == r_0.fThing.fKind) && ((r_0.fThing.fHidden == r_0.fThing.fHidden) && ((r_0.fThing.fFixed == r_0.fThing.fFixed) && ((r_0.fThing.fSigns == r_0.fThing.fSigns) && ((r_0.fThing.fWraps == r_0.fThing.fWraps) && (((ByteArray.toList r_0.fThing.fValue) == (ByteArray.toList r_0.fThing.fValue)) && ((r_0.fThing.fNext == r_0.fThing.fNext) && true)))))))) && true))))) then
            some ((⟨#[]⟩ : ByteArray), false)
          else
            (impl_oneByte r_0.fKind).bind fun r5 =>
            bif (decide ((r5.size + r4.1.size) ≤ 9223372036854775807)) then
            some ((r5 ++ r4.1), true)
            else none
      else
        bif (r_0.fKind == 4) then
          (impl_varText r_0.fNum).bind fun r6 =>
          (impl_in r_0.fNum (1 : Int) (1000 : Int)).bind fun r7 =>
          bif (!r7) then
            some ((⟨#[]⟩ : ByteArray), false)
          else
            bif (!((r_0.fKind == r_0.fKind) && (((ByteArray.toList r_0.fText) == (ByteArray.toList (⟨#[]⟩ : ByteArray))) && ((r_0.fNum == r_0.fNum) && (((r_0.fThing.fId == 0) && ((r_0.fThing.fKind == 0) && ((r_0.fThing.fHidden == false) && ((r_0.fThing.fFixed == false) && ((r_0.fThing.fSigns == false) && ((r_0.fThing.fWraps == false) && (((ByteArray.toList r_0.fThing.fValue) == (ByteArray.toList (⟨#[]⟩ : ByteArray))) && ((r_0.fThing.fNext == 0) && true)))))))) && true))))) then
              some ((⟨#[]⟩ : ByteArray), false)
            else
              (impl_oneByte r_0.fKind).bind fun r8 =>
              bif (decide ((r8.size + r6.size) ≤ 9223372036854775807)) then
              some ((r8 ++ r6), true)
              else none
        else
          some ((⟨#[]⟩ : ByteArray), false)
noncomputable def impl_RecText (r_0 : SRec) : Option (ByteArray × Bool) := E_impl_RecText impl_varText impl_in impl_ThingText impl_oneByte r_0
theorem e_impl_RecText (impl_varText : Int → Option ByteArray) (impl_in : Int → Int → Int → Option Bool) (impl_ThingText : SThing → Option (ByteArray × Bool)) (impl_oneByte : Int → Option ByteArray) : EntryIs0 ctx PP 38 [] [(52, H_impl_varText impl_varText), (71, H_impl_in impl_in), (14, H_impl_ThingText impl_ThingText), (53, H_impl_oneByte impl_oneByte)] cv43 cv7 (fun a => E_impl_RecText impl_varText impl_in impl_ThingText impl_oneByte a) := fun a => by kernel_rfl
theorem ok_impl_RecText : Tells ctx PP 38 cv43 cv7 (fun a => impl_RecText a) := fn_ok0 (hl_cons h_impl_varText (hl_cons h_impl_in (hl_cons h_impl_ThingText (hl_cons h_impl_oneByte hl_nil)))) Try.func38 (e_impl_RecText impl_varText impl_in impl_ThingText impl_oneByte)
noncomputable def H_impl_RecText {γ : Type} (F : SRec → Option (ByteArray × Bool)) : Hd ctx γ := hdl cv43.dec (fun a => F a) cv7.enc
theorem h_impl_RecText {γ : Type} : HdOk (γ := γ) PP 38 (H_impl_RecText impl_RecText) := hd_ok ok_impl_RecText
noncomputable def E_impl_ReadRec (impl_ReadThing : ByteArray → Option (SThing × Bool)) (impl_ReadVar : ByteArray → Int → Option (Int × Int × Bool)) (impl_RecText : SRec → Option (ByteArray × Bool)) (text_0 : ByteArray) : Option (SRec × Bool) :=
  bif ((ByteArray.toList text_0) == (ByteArray.toList (⟨#[]⟩ : ByteArray))) then
    some ((⟨(0 : Int), (⟨#[]⟩ : ByteArray), (0 : Int), (⟨(0 : Int), (0 : Int), false, false, false, false, (⟨#[]⟩ : ByteArray), (0 : Int)⟩ : SThing)⟩ : SRec), false)
  else
    bif ((decide ((0 : Int) ≤ (0 : Int))) && (decide (0 < (text_0.size : Int)))) then
    bif ((w64 (bt text_0 (0 : Int))) == 1) then
      bif ((decide ((0 : Int) ≤ (1 : Int))) && (decide (1 ≤ (text_0.size : Int)))) then
      (impl_RecText (⟨(w64 (bt text_0 (0 : Int))), (text_0.extract (1 : Int).toNat text_0.size), (0 : Int), (⟨(0 : Int), (0 : Int), false, false, false, false, (⟨#[]⟩ : ByteArray), (0 : Int)⟩ : SThing)⟩ : SRec)).bind fun r0 =>
      bif (!r0.2) then
        some ((⟨(0 : Int), (⟨#[]⟩ : ByteArray), (0 : Int), (⟨(0 : Int), (0 : Int), false, false, false, false, (⟨#[]⟩ : ByteArray), (0 : Int)⟩ : SThing)⟩ : SRec), false)
      else
        bif (!((ByteArray.toList r0.1) == (ByteArray.toList text_0))) then
          some ((⟨(0 : Int), (⟨#[]⟩ : ByteArray), (0 : Int), (⟨(0 : Int), (0 : Int), false, false, false, false, (⟨#[]⟩ : ByteArray), (0 : Int)⟩ : SThing)⟩ : SRec), false)
        else
          some ((⟨(w64 (bt text_0 (0 : Int))), (text_0.extract (1 : Int).toNat text_0.size), (0 : Int), (⟨(0 : Int), (0 : Int), false, false, false, false, (⟨#[]⟩ : ByteArray), (0 : Int)⟩ : SThing)⟩ : SRec), true)
      else none
    else
      bif ((w64 (bt text_0 (0 : Int))) == 3) then
        bif ((decide ((0 : Int) ≤ (1 : Int))) && (decide (1 ≤ (text_0.size : Int)))) then
        (impl_ReadThing (text_0.extract (1 : Int).toNat text_0.size)).bind fun r1 =>
        (impl_RecText (⟨(w64 (bt text_0 (0 : Int))), (⟨#[]⟩ : ByteArray), (0 : Int), r1.1⟩ : SRec)).bind fun r2 =>
        bif (!r2.2) then
          some ((⟨(0 : Int), (⟨#[]⟩ : ByteArray), (0 : Int), (⟨(0 : Int), (0 : Int), false, false, false, false, (⟨#[]⟩ : ByteArray), (0 : Int)⟩ : SThing)⟩ : SRec), false)
        else
          bif (!((ByteArray.toList r2.1) == (ByteArray.toList text_0))) then
            some ((⟨(0 : Int), (⟨#[]⟩ : ByteArray), (0 : Int), (⟨(0 : Int), (0 : Int), false, false, false, false, (⟨#[]⟩ : ByteArray), (0 : Int)⟩ : SThing)⟩ : SRec), false)
          else
            some ((⟨(w64 (bt text_0 (0 : Int))), (⟨#[]⟩ : ByteArray), (0 : Int), r1.1⟩ : SRec), true)
        else none
      else
        (impl_ReadVar text_0 (1 : Int)).bind fun r3 =>
        (impl_RecText (⟨(w64 (bt text_0 (0 : Int))), (⟨#[]⟩ : ByteArray), r3.1, (⟨(0 : Int), (0 : Int), false, false, false, false, (⟨#[]⟩ : ByteArray), (0 : Int)⟩ : SThing)⟩ : SRec)).bind fun r4 =>
        bif (!r4.2) then
          some ((⟨(0 : Int), (⟨#[]⟩ : ByteArray), (0 : Int), (⟨(0 : Int), (0 : Int), false, false, false, false, (⟨#[]⟩ : ByteArray), (0 : Int)⟩ : SThing)⟩ : SRec), false)
        else
          bif (!((ByteArray.toList r4.1) == (ByteArray.toList text_0))) then
            some ((⟨(0 : Int), (⟨#[]⟩ : ByteArray), (0 : Int), (⟨(0 : Int), (0 : Int), false, false, false, false, (⟨#[]⟩ : ByteArray), (0 : Int)⟩ : SThing)⟩ : SRec), false)
          else
            some ((⟨(w64 (bt text_0 (0 : Int))), (⟨#[]⟩ : ByteArray), r3.1, (⟨(0 : Int), (0 : Int), false, false, false, false, (⟨#[]⟩ : ByteArray), (0 : Int)⟩ : SThing)⟩ : SRec), true)
    else none
noncomputable def impl_ReadRec (text_0 : ByteArray) : Option (SRec × Bool) := E_impl_ReadRec impl_ReadThing impl_ReadVar impl_RecText text_0
theorem e_impl_ReadRec (impl_ReadThing : ByteArray → Option (SThing × Bool)) (impl_ReadVar : ByteArray → Int → Option (Int × Int × Bool)) (impl_RecText : SRec → Option (ByteArray × Bool)) : EntryIs0 ctx PP 44 [] [(42, H_impl_ReadThing impl_ReadThing), (78, H_impl_ReadVar impl_ReadVar), (38, H_impl_RecText impl_RecText)] cv6 cv55 (fun a => E_impl_ReadRec impl_ReadThing impl_ReadVar impl_RecText a) := fun a => by kernel_rfl
theorem ok_impl_ReadRec : Tells ctx PP 44 cv6 cv55 (fun a => impl_ReadRec a) := fn_ok0 (hl_cons h_impl_ReadThing (hl_cons h_impl_ReadVar (hl_cons h_impl_RecText hl_nil))) Try.func44 (e_impl_ReadRec impl_ReadThing impl_ReadVar impl_RecText)
noncomputable def H_impl_ReadRec {γ : Type} (F : ByteArray → Option (SRec × Bool)) : Hd ctx γ := hdl cv6.dec (fun a => F a) cv55.enc
theorem h_impl_ReadRec {γ : Type} : HdOk (γ := γ) PP 44 (H_impl_ReadRec impl_ReadRec) := hd_ok ok_impl_ReadRec
noncomputable def E_laws_eqThing  (a_0 : SThing) (b_1 : SThing) : Option Bool :=
  bif (a_0.fId != b_1.fId) then
    some false
  else
    bif (a_0.fKind != b_1.fKind) then
      some false
    else
      bif (!(a_0.fHidden == b_1.fHidden)) then
        some false
      else
        bif (!(a_0.fFixed == b_1.fFixed)) then
          some false
        else
          bif (!(a_0.fSigns == b_1.fSigns)) then
            some false
          else
            bif (!(a_0.fWraps == b_1.fWraps)) then
              some false
            else
              bif (!((ByteArray.toList a_0.fValue) == (ByteArray.toList b_1.fValue))) then
                some false
              else
                bif (a_0.fNext != b_1.fNext) then
                  some false
                else
                  some true
noncomputable def laws_eqThing (a_0 : SThing) (b_1 : SThing) : Option Bool := E_laws_eqThing  a_0 b_1
theorem e_laws_eqThing  : EntryIs0 ctx PP 33 [] [] cv39 cv4 (fun a => E_laws_eqThing  a.1 a.2) := fun a => by kernel_rfl
theorem ok_laws_eqThing : Tells ctx PP 33 cv39 cv4 (fun a => laws_eqThing a.1 a.2) := fn_ok0 hl_nil Try.func33 (e_laws_eqThing )
noncomputable def H_laws_eqThing {γ : Type} (F : SThing → SThing → Option Bool) : Hd ctx γ := hdl cv39.dec (fun a => F a.1 a.2) cv4.enc
theorem h_laws_eqThing {γ : Type} : HdOk (γ := γ) PP 33 (H_laws_eqThing laws_eqThing) := hd_ok ok_laws_eqThing
noncomputable def E_laws_eqRec (laws_eqThing : SThing → SThing → Option Bool) (a_0 : SRec) (b_1 : SRec) : Option Bool :=
  bif (a_0.fKind != b_1.fKind) then
    some false
  else
    bif (!((ByteArray.toList a_0.fText) == (ByteArray.toList b_1.fText))) then
      some false
    else
      bif (a_0.fNum != b_1.fNum) then
        some false
      else
        (laws_eqThing a_0.fThing b_1.fThing).bind fun r0 =>
        bif (!r0) then
          some false
        else
          some true
noncomputable def laws_eqRec (a_0 : SRec) (b_1 : SRec) : Option Bool := E_laws_eqRec laws_eqThing a_0 b_1
theorem e_laws_eqRec (laws_eqThing : SThing → SThing → Option Bool) : EntryIs0 ctx PP 45 [] [(33, H_laws_eqThing laws_eqThing)] cv56 cv4 (fun a => E_laws_eqRec laws_eqThing a.1 a.2) := fun a => by kernel_rfl
theorem ok_laws_eqRec : Tells ctx PP 45 cv56 cv4 (fun a => laws_eqRec a.1 a.2) := fn_ok0 (hl_cons h_laws_eqThing hl_nil) Try.func45 (e_laws_eqRec laws_eqThing)
noncomputable def H_laws_eqRec {γ : Type} (F : SRec → SRec → Option Bool) : Hd ctx γ := hdl cv56.dec (fun a => F a.1 a.2) cv4.enc
theorem h_laws_eqRec {γ : Type} : HdOk (γ := γ) PP 45 (H_laws_eqRec laws_eqRec) := hd_ok ok_laws_eqRec
noncomputable def E_laws_FnExactReadRec (spec_ReadRec : ByteArray → Option (SRec × Bool)) (impl_ReadRec : ByteArray → Option (SRec × Bool)) (laws_eqRec : SRec → SRec → Option Bool) (aText_0 : ByteArray) : Option Bool :=
  bif (decide ((aText_0.size : Int) > 1048576)) then
    some true
  else
    (spec_ReadRec aText_0).bind fun r0 =>
    (impl_ReadRec aText_0).bind fun r1 =>
    (laws_eqRec r1.1 r0.1).bind fun r2 =>
    bif (!r2) then
      some false
    else
      bif (!(r1.2 == r0.2)) then
        some false
      else
        some true
noncomputable def laws_FnExactReadRec (aText_0 : ByteArray) : Option Bool := E_laws_FnExactReadRec spec_ReadRec impl_ReadRec laws_eqRec aText_0
theorem e_laws_FnExactReadRec (spec_ReadRec : ByteArray → Option (SRec × Bool)) (impl_ReadRec : ByteArray → Option (SRec × Bool)) (laws_eqRec : SRec → SRec → Option Bool) : EntryIs0 ctx PP 10 [] [(43, H_spec_ReadRec spec_ReadRec), (44, H_impl_ReadRec impl_ReadRec), (45, H_laws_eqRec laws_eqRec)] cv6 cv4 (fun a => E_laws_FnExactReadRec spec_ReadRec impl_ReadRec laws_eqRec a) := fun a => by kernel_rfl
theorem ok_laws_FnExactReadRec : Tells ctx PP 10 cv6 cv4 (fun a => laws_FnExactReadRec a) := fn_ok0 (hl_cons h_spec_ReadRec (hl_cons h_impl_ReadRec (hl_cons h_laws_eqRec hl_nil))) Try.func10 (e_laws_FnExactReadRec spec_ReadRec impl_ReadRec laws_eqRec)
noncomputable def H_laws_FnExactReadRec {γ : Type} (F : ByteArray → Option Bool) : Hd ctx γ := hdl cv6.dec (fun a => F a) cv4.enc
theorem h_laws_FnExactReadRec {γ : Type} : HdOk (γ := γ) PP 10 (H_laws_FnExactReadRec laws_FnExactReadRec) := hd_ok ok_laws_FnExactReadRec
end Go.Proofs.Ytmhggcgkbenedaa.G
