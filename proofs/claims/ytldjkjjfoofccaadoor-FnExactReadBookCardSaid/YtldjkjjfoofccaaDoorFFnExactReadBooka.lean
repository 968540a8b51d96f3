/- Functions of the program, told by plain functions: part 1 of 2. -/
import Derived.Test.YtldjkjjfoofccaaDoorCtx
namespace Go.Proofs.YtldjkjjfoofccaaDoor.G
open Go Go.Ev
noncomputable def E_spec_l01In  (x_0 : Int) (least_1 : Int) (most_2 : Int) : Option Bool :=
  bif (decide (x_0 ≥ least_1)) then
    some (decide (x_0 ≤ most_2))
  else
    some false
noncomputable def spec_l01In (x_0 : Int) (least_1 : Int) (most_2 : Int) : Option Bool := E_spec_l01In  x_0 least_1 most_2
theorem e_spec_l01In  : EntryIs0 ctx PP 60 [] [] cv2 cv3 (fun a => E_spec_l01In  a.1 a.2.1 a.2.2) := fun a => by kernel_rfl
theorem ok_spec_l01In : Tells ctx PP 60 cv2 cv3 (fun a => spec_l01In a.1 a.2.1 a.2.2) := fn_ok0 hl_nil Tryd.func60 (e_spec_l01In )
noncomputable def H_spec_l01In {γ : Type} (F : Int → Int → Int → Option Bool) : Hd ctx γ := hdl cv2.dec (fun a => F a.1 a.2.1 a.2.2) cv3.enc
theorem h_spec_l01In {γ : Type} : HdOk (γ := γ) PP 60 (H_spec_l01In spec_l01In) := hd_ok ok_spec_l01In
noncomputable def todo_spec_l01Var_0 : List Go.Item := [.code (cAt (bodyOf Tryd.f50) [1, 1, 0, 0, 0, 0, 0]), .code (cAt (bodyOf Tryd.f50) [1, 1, 0, 0, 0, 0, 1]), .code (cAt (bodyOf Tryd.f50) [1, 1, 0, 0, 0, 1]), .inLoop (cAt (bodyOf Tryd.f50) [1, 1, 0, 0, 0]), .inBlock 0, .code (cAt (bodyOf Tryd.f50) [1, 1, 1])]
inductive St_spec_l01Var where
  | c0 (n_0 : Int) (out_3 : (List Int))
noncomputable def at_spec_l01Var : St_spec_l01Var → LI
  | .c0 n_0 out_3 => (todo_spec_l01Var_0, [(0, [.one (.int .i64 n_0)]), (3, [.one (.own 240)])], [(240, .sl 5 out_3)])
noncomputable def E_spec_l01Var  (k : St_spec_l01Var → Option ByteArray) (n_0 : Int) : Option ByteArray :=
  k (.c0 n_0 [])
noncomputable def B_spec_l01Var  (k : St_spec_l01Var → Option ByteArray) : St_spec_l01Var → Option ByteArray
  | .c0 n_0 out_3 =>
    bif (decide (n_0 > 127)) then
      bif (decide (((out_3.length + 1) * 1) ≤ 140737488355328)) then
      k (.c0 (w64 (n_0.tdiv 128)) (out_3 ++ [(w8 (w64 ((n_0.tmod 128) + 128)))]))
      else none
    else
      bif (decide (((out_3.length + 1) * 1) ≤ 140737488355328)) then
      some (ofBytes (out_3 ++ [(w8 n_0)]))
      else none
noncomputable def L_spec_l01Var : Nat → St_spec_l01Var → Option ByteArray
  | 0, _ => none
  | m + 1, s => B_spec_l01Var  (L_spec_l01Var m) s
noncomputable def spec_l01Var (n_0 : Int) : Option ByteArray := E_spec_l01Var  (L_spec_l01Var gas) n_0
theorem e_spec_l01Var  : EntryIs ctx PP 50 [] [] cv0 cv1 at_spec_l01Var (fun k a => E_spec_l01Var  k a) := fun stop a => by kernel_rfl
theorem b_spec_l01Var  : CutIs ctx PP 50 Tryd.f50 [] [] cv1 at_spec_l01Var (B_spec_l01Var ) := fun stop s => by cases s <;> kernel_rfl
theorem i_spec_l01Var : ∀ s s', at_spec_l01Var s = at_spec_l01Var s' → s = s' := by
  intro s s' h
  cases s with
  | c0 v0 v1 => cases s' with
    | c0 w0 w1 => cases h; rfl
theorem ok_spec_l01Var : Tells ctx PP 50 cv0 cv1 (fun a => spec_l01Var a) := fn_ok hl_nil Tryd.func50 i_spec_l01Var (fun _ => rfl) (fun _ _ => rfl) (b_spec_l01Var ) (e_spec_l01Var ) gas
noncomputable def H_spec_l01Var {γ : Type} (F : Int → Option ByteArray) : Hd ctx γ := hdl cv0.dec (fun a => F a) cv1.enc
theorem h_spec_l01Var {γ : Type} : HdOk (γ := γ) PP 50 (H_spec_l01Var spec_l01Var) := hd_ok ok_spec_l01Var
noncomputable def todo_spec_ReadVar_0 : List Go.Item := [.code (cAt (bodyOf Tryd.f55) [1, 1, 1, 1, 0, 1, 0, 0, 0, 0]), .code (cAt (bodyOf Tryd.f55) [1, 1, 1, 1, 0, 1, 0, 0, 0, 1]), .code (cAt (bodyOf Tryd.f55) [1, 1, 1, 1, 0, 1, 0, 0, 1]), .inLoop (cAt (bodyOf Tryd.f55) [1, 1, 1, 1, 0, 1, 0, 0]), .inBlock 0, .code (cAt (bodyOf Tryd.f55) [1, 1, 1, 1, 1])]
inductive St_spec_ReadVar where
  | c0 (text_0 : ByteArray) (at_1 : Int) (n_7 : Int) (scale_8 : Int) (i_9 : Int)
noncomputable def at_spec_ReadVar : St_spec_ReadVar → LI
  | .c0 text_0 at_1 n_7 scale_8 i_9 => (todo_spec_ReadVar_0, [(0, [.one (.str text_0)]), (1, [.one (.int .i64 at_1)]), (7, [.one (.int .i64 n_7)]), (8, [.one (.int .i64 scale_8)]), (9, [.one (.int .i64 i_9)])], [])
noncomputable def E_spec_ReadVar (spec_l01In : Int → Int → Int → Option Bool) (spec_l01Var : Int → Option ByteArray) (k : St_spec_ReadVar → Option (Int × Int × Bool)) (text_0 : ByteArray) (at_1 : Int) : Option (Int × Int × Bool) :=
  (spec_l01In at_1 (0 : Int) (text_0.size : Int)).bind fun r0 =>
  bif (!r0) then
    some ((0 : Int), ((0 : Int), false))
  else
    k (.c0 text_0 at_1 (0 : Int) (1 : Int) at_1)
noncomputable def B_spec_ReadVar (spec_l01In : Int → Int → Int → Option Bool) (spec_l01Var : Int → Option ByteArray) (k : St_spec_ReadVar → Option (Int × Int × Bool)) : St_spec_ReadVar → Option (Int × Int × Bool)
  | .c0 text_0 at_1 n_7 scale_8 i_9 =>
    bif (decide (i_9 < (text_0.size : Int))) then
      bif (decide (i_9 < (w64 (at_1 + 5)))) then
        bif ((decide (0 ≤ i_9)) && (decide (i_9 < (text_0.size : Int)))) then
        bif ((decide (0 ≤ i_9)) && (decide (i_9 < (text_0.size : Int)))) then
        bif (decide ((bt text_0 i_9) < 128)) then
          bif (decide ((w64 (n_7 + (w64 (((w64 (bt text_0 i_9)).tmod 128) * scale_8)))) > 1000000000)) then
            some ((0 : Int), ((0 : Int), false))
          else
            (spec_l01Var (w64 (n_7 + (w64 (((w64 (bt text_0 i_9)).tmod 128) * scale_8))))).bind fun r0 =>
            bif (((decide (0 ≤ at_1)) && (decide (at_1 ≤ (w64 (i_9 + 1))))) && (decide ((w64 (i_9 + 1)) ≤ (text_0.size : Int)))) then
            bif (!((ByteArray.toList r0) == (ByteArray.toList (text_0.extract at_1.toNat (w64 (i_9 + 1)).toNat)))) then
              some ((0 : Int), ((0 : Int), false))
            else
              some ((w64 (n_7 + (w64 (((w64 (bt text_0 i_9)).tmod 128) * scale_8)))), ((w64 (i_9 + 1)), true))
            else none
        else
          k (.c0 text_0 at_1 (w64 (n_7 + (w64 (((w64 (bt text_0 i_9)).tmod 128) * scale_8)))) (w64 (scale_8 * 128)) (w64 (i_9 + 1)))
        else none
        else none
      else
        some ((0 : Int), ((0 : Int), false))
    else
      some ((0 : Int), ((0 : Int), false))
noncomputable def L_spec_ReadVar : Nat → St_spec_ReadVar → Option (Int × Int × Bool)
  | 0, _ => none
  | m + 1, s => B_spec_ReadVar spec_l01In spec_l01Var (L_spec_ReadVar m) s
noncomputable def spec_ReadVar (text_0 : ByteArray) (at_1 : Int) : Option (Int × Int × Bool) := E_spec_ReadVar spec_l01In spec_l01Var (L_spec_ReadVar gas) text_0 at_1
theorem e_spec_ReadVar (spec_l01In : Int → Int → Int → Option Bool) (spec_l01Var : Int → Option ByteArray) : EntryIs ctx PP 55 [] [(60, H_spec_l01In spec_l01In), (50, H_spec_l01Var spec_l01Var)] cv8 cv22 at_spec_ReadVar (fun k a => E_spec_ReadVar spec_l01In spec_l01Var k a.1 a.2) := fun stop a => by kernel_rfl
theorem b_spec_ReadVar (spec_l01In : Int → Int → Int → Option Bool) (spec_l01Var : Int → Option ByteArray) : CutIs ctx PP 55 Tryd.f55 [] [(60, H_spec_l01In spec_l01In), (50, H_spec_l01Var spec_l01Var)] cv22 at_spec_ReadVar (B_spec_ReadVar spec_l01In spec_l01Var) := fun stop s => by cases s <;> kernel_rfl
theorem i_spec_ReadVar : ∀ s s', at_spec_ReadVar s = at_spec_ReadVar s' → s = s' := by
  intro s s' h
  cases s with
  | c0 v0 v1 v2 v3 v4 => cases s' with
    | c0 w0 w1 w2 w3 w4 => cases h; rfl
theorem ok_spec_ReadVar : Tells ctx PP 55 cv8 cv22 (fun a => spec_ReadVar a.1 a.2) := fn_ok (hl_cons h_spec_l01In (hl_cons h_spec_l01Var hl_nil)) Tryd.func55 i_spec_ReadVar (fun _ => rfl) (fun _ _ => rfl) (b_spec_ReadVar spec_l01In spec_l01Var) (e_spec_ReadVar spec_l01In spec_l01Var) gas
noncomputable def H_spec_ReadVar {γ : Type} (F : ByteArray → Int → Option (Int × Int × Bool)) : Hd ctx γ := hdl cv8.dec (fun a => F a.1 a.2) cv22.enc
theorem h_spec_ReadVar {γ : Type} : HdOk (γ := γ) PP 55 (H_spec_ReadVar spec_ReadVar) := hd_ok ok_spec_ReadVar
noncomputable def todo_spec_SumMore_0 : List Go.Item := [.code (cAt (bodyOf Tryd.f157) [1, 0, 1, 0, 0, 0, 0]), .code (cAt (bodyOf Tryd.f157) [1, 0, 1, 0, 0, 0, 1]), .code (cAt (bodyOf Tryd.f157) [1, 0, 1, 0, 0, 1]), .inLoop (cAt (bodyOf Tryd.f157) [1, 0, 1, 0, 0]), .inBlock 0, .code (cAt (bodyOf Tryd.f157) [1, 1])]
noncomputable def todo_spec_SumMore_1 : List Go.Item := [.code (cAt (bodyOf Tryd.f157) [1, 0, 1, 0, 0, 1, 0, 0, 1, 1, 0, 0, 0, 0]), .code (cAt (bodyOf Tryd.f157) [1, 0, 1, 0, 0, 1, 0, 0, 1, 1, 0, 0, 0, 1]), .code (cAt (bodyOf Tryd.f157) [1, 0, 1, 0, 0, 1, 0, 0, 1, 1, 0, 0, 1]), .inLoop (cAt (bodyOf Tryd.f157) [1, 0, 1, 0, 0, 1, 0, 0, 1, 1, 0, 0]), .inBlock 2, .inBlock 1, .code (cAt (bodyOf Tryd.f157) [1, 0, 1, 0, 0, 1, 1]), .inLoop (cAt (bodyOf Tryd.f157) [1, 0, 1, 0, 0]), .inBlock 0, .code (cAt (bodyOf Tryd.f157) [1, 1])]
inductive St_spec_SumMore where
  | c0 (sum_0 : Int) (text_1 : ByteArray) (i_5 : Int)
  | c1 (sum_0 : Int) (text_1 : ByteArray) (i_5 : Int) (k_6 : Int)
noncomputable def at_spec_SumMore : St_spec_SumMore → LI
  | .c0 sum_0 text_1 i_5 => (todo_spec_SumMore_0, [(0, [.one (.int .u32 sum_0)]), (1, [.one (.str text_1)]), (5, [.one (.int .i64 i_5)])], [])
  | .c1 sum_0 text_1 i_5 k_6 => (todo_spec_SumMore_1, [(0, [.one (.int .u32 sum_0)]), (1, [.one (.str text_1)]), (5, [.one (.int .i64 i_5)]), (6, [.one (.int .i64 k_6)])], [])
noncomputable def E_spec_SumMore  (k : St_spec_SumMore → Option Int) (sum_0 : Int) (text_1 : ByteArray) : Option Int :=
  k (.c0 sum_0 text_1 (0 : Int))
noncomputable def B_spec_SumMore  (k : St_spec_SumMore → Option Int) : St_spec_SumMore → Option Int
  | .c0 sum_0 text_1 i_5 =>
    bif (decide (i_5 < (text_1.size : Int))) then
      bif ((decide (0 ≤ i_5)) && (decide (i_5 < (text_1.size : Int)))) then
      k (.c1 (w32 (((BitVec.toNat ((BitVec.ofInt (IntKind.bits IntKind.u32) sum_0) ^^^ (BitVec.ofInt (IntKind.bits IntKind.u32) (w32 (bt text_1 i_5))))) : Nat) : Int)) text_1 i_5 (0 : Int))
      else none
    else
      some sum_0
  | .c1 sum_0 text_1 i_5 k_6 =>
    bif (decide (k_6 < 8)) then
      bif ((sum_0.tmod 2) == 1) then
        k (.c1 (w32 (((BitVec.toNat ((BitVec.ofInt (IntKind.bits IntKind.u32) (w32 (sum_0.tdiv 2))) ^^^ (BitVec.ofInt (IntKind.bits IntKind.u32) (3558460437 : Int)))) : Nat) : Int)) text_1 i_5 (w64 (k_6 + 1)))
      else
        k (.c1 (w32 (sum_0.tdiv 2)) text_1 i_5 (w64 (k_6 + 1)))
    else
      k (.c0 sum_0 text_1 (w64 (i_5 + 1)))
noncomputable def L_spec_SumMore : Nat → St_spec_SumMore → Option Int
  | 0, _ => none
  | m + 1, s => B_spec_SumMore  (L_spec_SumMore m) s
noncomputable def spec_SumMore (sum_0 : Int) (text_1 : ByteArray) : Option Int := E_spec_SumMore  (L_spec_SumMore gas) sum_0 text_1
theorem e_spec_SumMore  : EntryIs ctx PP 157 [] [] cv29 cv9 at_spec_SumMore (fun k a => E_spec_SumMore  k a.1 a.2) := fun stop a => by kernel_rfl
theorem b_spec_SumMore  : CutIs ctx PP 157 Tryd.f157 [] [] cv9 at_spec_SumMore (B_spec_SumMore ) := fun stop s => by cases s <;> kernel_rfl
theorem i_spec_SumMore : ∀ s s', at_spec_SumMore s = at_spec_SumMore s' → s = s' := by
  intro s s' h
  cases s with
  | c0 v0 v1 v2 => cases s' with
    | c0 w0 w1 w2 => cases h; rfl
    | c1 w0 w1 w2 w3 => exact (region_ne 2 6 h (by kernel_rfl) (by kernel_rfl) rfl).elim
  | c1 v0 v1 v2 v3 => cases s' with
    | c0 w0 w1 w2 => exact (region_ne 6 2 h (by kernel_rfl) (by kernel_rfl) rfl).elim
    | c1 w0 w1 w2 w3 => cases h; rfl
theorem ok_spec_SumMore : Tells ctx PP 157 cv29 cv9 (fun a => spec_SumMore a.1 a.2) := fn_ok hl_nil Tryd.func157 i_spec_SumMore (fun _ => rfl) (fun _ _ => rfl) (b_spec_SumMore ) (e_spec_SumMore ) gas
noncomputable def H_spec_SumMore {γ : Type} (F : Int → ByteArray → Option Int) : Hd ctx γ := hdl cv29.dec (fun a => F a.1 a.2) cv9.enc
theorem h_spec_SumMore {γ : Type} : HdOk (γ := γ) PP 157 (H_spec_SumMore spec_SumMore) := hd_ok ok_spec_SumMore
noncomputable def E_spec_SumOf (spec_SumMore : Int → ByteArray → Option Int) (text_0 : ByteArray) : Option Int :=
  (spec_SumMore (4294967295 : Int) text_0).bind fun r0 =>
  some r0
noncomputable def spec_SumOf (text_0 : ByteArray) : Option Int := E_spec_SumOf spec_SumMore text_0
theorem e_spec_SumOf (spec_SumMore : Int → ByteArray → Option Int) : EntryIs0 ctx PP 120 [] [(157, H_spec_SumMore spec_SumMore)] cv1 cv9 (fun a => E_spec_SumOf spec_SumMore a) := fun a => by kernel_rfl
theorem ok_spec_SumOf : Tells ctx PP 120 cv1 cv9 (fun a => spec_SumOf a) := fn_ok0 (hl_cons h_spec_SumMore hl_nil) Tryd.func120 (e_spec_SumOf spec_SumMore)
noncomputable def H_spec_SumOf {γ : Type} (F : ByteArray → Option Int) : Hd ctx γ := hdl cv1.dec (fun a => F a) cv9.enc
theorem h_spec_SumOf {γ : Type} : HdOk (γ := γ) PP 120 (H_spec_SumOf spec_SumOf) := hd_ok ok_spec_SumOf
noncomputable def E_spec_l02Four  (x_0 : Int) : Option ByteArray :=
  some (ofBytes [(w8 (Int.fdiv x_0 (2 ^ (Min.min (24 : Int).toNat (IntKind.bits IntKind.u32))))), (w8 (Int.fdiv x_0 (2 ^ (Min.min (16 : Int).toNat (IntKind.bits IntKind.u32))))), (w8 (Int.fdiv x_0 (2 ^ (Min.min (8 : Int).toNat (IntKind.bits IntKind.u32))))), (w8 x_0)])
noncomputable def spec_l02Four (x_0 : Int) : Option ByteArray := E_spec_l02Four  x_0
theorem e_spec_l02Four  : EntryIs0 ctx PP 119 [] [] cv9 cv1 (fun a => E_spec_l02Four  a) := fun a => by kernel_rfl
theorem ok_spec_l02Four : Tells ctx PP 119 cv9 cv1 (fun a => spec_l02Four a) := fn_ok0 hl_nil Tryd.func119 (e_spec_l02Four )
noncomputable def H_spec_l02Four {γ : Type} (F : Int → Option ByteArray) : Hd ctx γ := hdl cv9.dec (fun a => F a) cv1.enc
theorem h_spec_l02Four {γ : Type} : HdOk (γ := γ) PP 119 (H_spec_l02Four spec_l02Four) := hd_ok ok_spec_l02Four
noncomputable def E_spec_Frame (spec_l01In : Int → Int → Int → Option Bool) (spec_l01Var : Int → Option ByteArray) (spec_SumOf : ByteArray → Option Int) (spec_l02Four : Int → Option ByteArray) (text_0 : ByteArray) : Option (ByteArray × Bool) :=
  (spec_l01In (text_0.size : Int) (1 : Int) (9000 : Int)).bind fun r0 =>
  bif (!r0) then
    some ((⟨#[]⟩ : ByteArray), false)
  else
    (spec_l01Var (text_0.size : Int)).bind fun r1 =>
    (spec_SumOf text_0).bind fun r2 =>
    (spec_l02Four r2).bind fun r3 =>
    bif (decide ((r1.size + r3.size) ≤ 9223372036854775807)) then
    bif (decide (((r1 ++ r3).size + text_0.size) ≤ 9223372036854775807)) then
    some (((r1 ++ r3) ++ text_0), true)
    else none
    else none
noncomputable def spec_Frame (text_0 : ByteArray) : Option (ByteArray × Bool) := E_spec_Frame spec_l01In spec_l01Var spec_SumOf spec_l02Four text_0
theorem e_spec_Frame (spec_l01In : Int → Int → Int → Option Bool) (spec_l01Var : Int → Option ByteArray) (spec_SumOf : ByteArray → Option Int) (spec_l02Four : Int → Option ByteArray) : EntryIs0 ctx PP 61 [] [(60, H_spec_l01In spec_l01In), (50, H_spec_l01Var spec_l01Var), (120, H_spec_SumOf spec_SumOf), (119, H_spec_l02Four spec_l02Four)] cv1 cv17 (fun a => E_spec_Frame spec_l01In spec_l01Var spec_SumOf spec_l02Four a) := fun a => by kernel_rfl
theorem ok_spec_Frame : Tells ctx PP 61 cv1 cv17 (fun a => spec_Frame a) := fn_ok0 (hl_cons h_spec_l01In (hl_cons h_spec_l01Var (hl_cons h_spec_SumOf (hl_cons h_spec_l02Four hl_nil)))) Tryd.func61 (e_spec_Frame spec_l01In spec_l01Var spec_SumOf spec_l02Four)
noncomputable def H_spec_Frame {γ : Type} (F : ByteArray → Option (ByteArray × Bool)) : Hd ctx γ := hdl cv1.dec (fun a => F a) cv17.enc
theorem h_spec_Frame {γ : Type} : HdOk (γ := γ) PP 61 (H_spec_Frame spec_Frame) := hd_ok ok_spec_Frame
noncomputable def todo_spec_Unframe_0 : List Go.Item := [.code (cAt (bodyOf Tryd.f104) [1, 1, 1, 1, 0, 0, 0, 0, 0]), .code (cAt (bodyOf Tryd.f104) [1, 1, 1, 1, 0, 0, 0, 0, 1]), .code (cAt (bodyOf Tryd.f104) [1, 1, 1, 1, 0, 0, 0, 1]), .inLoop (cAt (bodyOf Tryd.f104) [1, 1, 1, 1, 0, 0, 0]), .inBlock 0, .code (cAt (bodyOf Tryd.f104) [1, 1, 1, 1, 1])]
inductive St_spec_Unframe where
  | c0 (file_0 : ByteArray) (at_5 : Int) (out_4 : (List ByteArray))
noncomputable def at_spec_Unframe : St_spec_Unframe → LI
  | .c0 file_0 at_5 out_4 => (todo_spec_Unframe_0, [(0, [.one (.str file_0)]), (4, [.one (.own 304)]), (5, [.one (.int .i64 at_5)])], [(304, .sl 9 out_4)])
noncomputable def E_spec_Unframe (spec_ReadVar : ByteArray → Int → Option (Int × Int × Bool)) (spec_Frame : ByteArray → Option (ByteArray × Bool)) (k : St_spec_Unframe → Option ((List ByteArray) × Int)) (file_0 : ByteArray) : Option ((List ByteArray) × Int) :=
  bif (decide ((file_0.size : Int) > 20000)) then
    some ([], (0 : Int))
  else
    k (.c0 file_0 (0 : Int) [])
noncomputable def B_spec_Unframe (spec_ReadVar : ByteArray → Int → Option (Int × Int × Bool)) (spec_Frame : ByteArray → Option (ByteArray × Bool)) (k : St_spec_Unframe → Option ((List ByteArray) × Int)) : St_spec_Unframe → Option ((List ByteArray) × Int)
  | .c0 file_0 at_5 out_4 =>
    bif (decide (at_5 < (file_0.size : Int))) then
      (spec_ReadVar file_0 at_5).bind fun r0 =>
      bif (!r0.2.2) then
        some (out_4, at_5)
      else
        bif (decide (r0.1 > (w64 ((w64 ((file_0.size : Int) - r0.2.1)) - 4)))) then
          some (out_4, at_5)
        else
          bif (((decide (0 ≤ (w64 (r0.2.1 + 4)))) && (decide ((w64 (r0.2.1 + 4)) ≤ (w64 ((w64 (r0.2.1 + 4)) + r0.1))))) && (decide ((w64 ((w64 (r0.2.1 + 4)) + r0.1)) ≤ (file_0.size : Int)))) then
          (spec_Frame (file_0.extract (w64 (r0.2.1 + 4)).toNat (w64 ((w64 (r0.2.1 + 4)) + r0.1)).toNat)).bind fun r1 =>
          bif (!r1.2) then
            some (out_4, at_5)
          else
            bif (((decide (0 ≤ at_5)) && (decide (at_5 ≤ (w64 ((w64 (r0.2.1 + 4)) + r0.1))))) && (decide ((w64 ((w64 (r0.2.1 + 4)) + r0.1)) ≤ (file_0.size : Int)))) then
            bif (!((ByteArray.toList r1.1) == (ByteArray.toList (file_0.extract at_5.toNat (w64 ((w64 (r0.2.1 + 4)) + r0.1)).toNat)))) then
              some (out_4, at_5)
            else
              bif (decide (((out_4.length + 1) * 16) ≤ 140737488355328)) then
              k (.c0 file_0 (w64 ((w64 (r0.2.1 + 4)) + r0.1)) (out_4 ++ [(file_0.extract (w64 (r0.2.1 + 4)).toNat (w64 ((w64 (r0.2.1 + 4)) + r0.1)).toNat)]))
              else none
            else none
          else none
    else
      some (out_4, at_5)
noncomputable def L_spec_Unframe : Nat → St_spec_Unframe → Option ((List ByteArray) × Int)
  | 0, _ => none
  | m + 1, s => B_spec_Unframe spec_ReadVar spec_Frame (L_spec_Unframe m) s
noncomputable def spec_Unframe (file_0 : ByteArray) : Option ((List ByteArray) × Int) := E_spec_Unframe spec_ReadVar spec_Frame (L_spec_Unframe gas) file_0
theorem e_spec_Unframe (spec_ReadVar : ByteArray → Int → Option (Int × Int × Bool)) (spec_Frame : ByteArray → Option (ByteArray × Bool)) : EntryIs ctx PP 104 [] [(55, H_spec_ReadVar spec_ReadVar), (61, H_spec_Frame spec_Frame)] cv1 cv114 at_spec_Unframe (fun k a => E_spec_Unframe spec_ReadVar spec_Frame k a) := fun stop a => by kernel_rfl
theorem b_spec_Unframe (spec_ReadVar : ByteArray → Int → Option (Int × Int × Bool)) (spec_Frame : ByteArray → Option (ByteArray × Bool)) : CutIs ctx PP 104 Tryd.f104 [] [(55, H_spec_ReadVar spec_ReadVar), (61, H_spec_Frame spec_Frame)] cv114 at_spec_Unframe (B_spec_Unframe spec_ReadVar spec_Frame) := fun stop s => by cases s <;> kernel_rfl
theorem i_spec_Unframe : ∀ s s', at_spec_Unframe s = at_spec_Unframe s' → s = s' := by
  intro s s' h
  cases s with
  | c0 v0 v1 v2 => cases s' with
    | c0 w0 w1 w2 => cases h; rfl
theorem ok_spec_Unframe : Tells ctx PP 104 cv1 cv114 (fun a => spec_Unframe a) := fn_ok (hl_cons h_spec_ReadVar (hl_cons h_spec_Frame hl_nil)) Tryd.func104 i_spec_Unframe (fun _ => rfl) (fun _ _ => rfl) (b_spec_Unframe spec_ReadVar spec_Frame) (e_spec_Unframe spec_ReadVar spec_Frame) gas
noncomputable def H_spec_Unframe {γ : Type} (F : ByteArray → Option ((List ByteArray) × Int)) : Hd ctx γ := hdl cv1.dec (fun a => F a) cv114.enc
theorem h_spec_Unframe {γ : Type} : HdOk (γ := γ) PP 104 (H_spec_Unframe spec_Unframe) := hd_ok ok_spec_Unframe
noncomputable def E_spec_l06Byte  (n_0 : Int) : Option ByteArray :=
  bif (decide ((n_0.tmod 256) < 0)) then
    some (ofBytes [(w8 (w64 ((n_0.tmod 256) + 256)))])
  else
    some (ofBytes [(w8 (n_0.tmod 256))])
noncomputable def spec_l06Byte (n_0 : Int) : Option ByteArray := E_spec_l06Byte  n_0
theorem e_spec_l06Byte  : EntryIs0 ctx PP 152 [] [] cv0 cv1 (fun a => E_spec_l06Byte  a) := fun a => by kernel_rfl
theorem ok_spec_l06Byte : Tells ctx PP 152 cv0 cv1 (fun a => spec_l06Byte a) := fn_ok0 hl_nil Tryd.func152 (e_spec_l06Byte )
noncomputable def H_spec_l06Byte {γ : Type} (F : Int → Option ByteArray) : Hd ctx γ := hdl cv0.dec (fun a => F a) cv1.enc
theorem h_spec_l06Byte {γ : Type} : HdOk (γ := γ) PP 152 (H_spec_l06Byte spec_l06Byte) := hd_ok ok_spec_l06Byte
noncomputable def E_spec_l05First   : Option (List Int) :=
  some [(1779033703 : Int), (3144134277 : Int), (1013904242 : Int), (2773480762 : Int), (1359893119 : Int), (2600822924 : Int), (528734635 : Int), (1541459225 : Int)]
noncomputable def spec_l05First  : Option (List Int) := E_spec_l05First  
theorem e_spec_l05First  : EntryIs0 ctx PP 166 [] [] cv4 cv5 (fun _ => E_spec_l05First  ) := fun a => by kernel_rfl
theorem ok_spec_l05First : Tells ctx PP 166 cv4 cv5 (fun _ => spec_l05First ) := fn_ok0 hl_nil Tryd.func166 (e_spec_l05First )
noncomputable def H_spec_l05First {γ : Type} (F : Option (List Int)) : Hd ctx γ := hdl cv4.dec (fun _ => F ) cv5.enc
theorem h_spec_l05First {γ : Type} : HdOk (γ := γ) PP 166 (H_spec_l05First spec_l05First) := hd_ok ok_spec_l05First
noncomputable def todo_spec_l05Bytes_0 : List Go.Item := [.code (cAt (bodyOf Tryd.f165) [1, 1, 0, 1, 0, 0, 0, 0]), .code (cAt (bodyOf Tryd.f165) [1, 1, 0, 1, 0, 0, 0, 1]), .code (cAt (bodyOf Tryd.f165) [1, 1, 0, 1, 0, 0, 1]), .inLoop (cAt (bodyOf Tryd.f165) [1, 1, 0, 1, 0, 0]), .inBlock 0, .code (cAt (bodyOf Tryd.f165) [1, 1, 1])]
inductive St_spec_l05Bytes where
  | c0 (words_0 : (List Int)) (i_4 : Int) (out_3 : (List Int))
noncomputable def at_spec_l05Bytes : St_spec_l05Bytes → LI
  | .c0 words_0 i_4 out_3 => (todo_spec_l05Bytes_0, [(0, [.one (.rsl 138 words_0)]), (3, [.one (.own 240)]), (4, [.one (.int .i64 i_4)])], [(240, .sl 5 out_3)])
noncomputable def E_spec_l05Bytes  (k : St_spec_l05Bytes → Option ByteArray) (words_0 : (List Int)) : Option ByteArray :=
  k (.c0 words_0 (0 : Int) [])
noncomputable def B_spec_l05Bytes  (k : St_spec_l05Bytes → Option ByteArray) : St_spec_l05Bytes → Option ByteArray
  | .c0 words_0 i_4 out_3 =>
    bif (decide (i_4 < (words_0.length : Int))) then
      bif ((decide (0 ≤ i_4)) && (decide (i_4 < (words_0.length : Int)))) then
      bif (decide (((out_3.length + 4) * 1) ≤ 140737488355328)) then
      k (.c0 words_0 (w64 (i_4 + 1)) (out_3 ++ [(w8 (w32 ((words_0.getD i_4.toNat 0).tdiv 16777216))), (w8 ((w32 ((words_0.getD i_4.toNat 0).tdiv 65536)).tmod 256)), (w8 ((w32 ((words_0.getD i_4.toNat 0).tdiv 256)).tmod 256)), (w8 ((words_0.getD i_4.toNat 0).tmod 256))]))
      else none
      else none
    else
      some (ofBytes out_3)
noncomputable def L_spec_l05Bytes : Nat → St_spec_l05Bytes → Option ByteArray
  | 0, _ => none
  | m + 1, s => B_spec_l05Bytes  (L_spec_l05Bytes m) s
noncomputable def spec_l05Bytes (words_0 : (List Int)) : Option ByteArray := E_spec_l05Bytes  (L_spec_l05Bytes gas) words_0
theorem e_spec_l05Bytes  : EntryIs ctx PP 165 [] [] cv6 cv1 at_spec_l05Bytes (fun k a => E_spec_l05Bytes  k a) := fun stop a => by kernel_rfl
theorem b_spec_l05Bytes  : CutIs ctx PP 165 Tryd.f165 [] [] cv1 at_spec_l05Bytes (B_spec_l05Bytes ) := fun stop s => by cases s <;> kernel_rfl
theorem i_spec_l05Bytes : ∀ s s', at_spec_l05Bytes s = at_spec_l05Bytes s' → s = s' := by
  intro s s' h
  cases s with
  | c0 v0 v1 v2 => cases s' with
    | c0 w0 w1 w2 => cases h; rfl
theorem ok_spec_l05Bytes : Tells ctx PP 165 cv6 cv1 (fun a => spec_l05Bytes a) := fn_ok hl_nil Tryd.func165 i_spec_l05Bytes (fun _ => rfl) (fun _ _ => rfl) (b_spec_l05Bytes ) (e_spec_l05Bytes ) gas
noncomputable def H_spec_l05Bytes {γ : Type} (F : (List Int) → Option ByteArray) : Hd ctx γ := hdl cv6.dec (fun a => F a) cv1.enc
theorem h_spec_l05Bytes {γ : Type} : HdOk (γ := γ) PP 165 (H_spec_l05Bytes spec_l05Bytes) := hd_ok ok_spec_l05Bytes
noncomputable def E_spec_HasherNew (spec_l05First : Option (List Int)) (spec_l05Bytes : (List Int) → Option ByteArray)  : Option SHasher :=
  spec_l05First.bind fun r0 =>
  (spec_l05Bytes r0).bind fun r1 =>
  some (⟨r1, (⟨#[]⟩ : ByteArray), (0 : Int)⟩ : SHasher)
noncomputable def spec_HasherNew  : Option SHasher := E_spec_HasherNew spec_l05First spec_l05Bytes 
theorem e_spec_HasherNew (spec_l05First : Option (List Int)) (spec_l05Bytes : (List Int) → Option ByteArray) : EntryIs0 ctx PP 130 [] [(166, H_spec_l05First spec_l05First), (165, H_spec_l05Bytes spec_l05Bytes)] cv4 cv7 (fun _ => E_spec_HasherNew spec_l05First spec_l05Bytes ) := fun a => by kernel_rfl
theorem ok_spec_HasherNew : Tells ctx PP 130 cv4 cv7 (fun _ => spec_HasherNew ) := fn_ok0 (hl_cons h_spec_l05First (hl_cons h_spec_l05Bytes hl_nil)) Tryd.func130 (e_spec_HasherNew spec_l05First spec_l05Bytes)
noncomputable def H_spec_HasherNew {γ : Type} (F : Option SHasher) : Hd ctx γ := hdl cv4.dec (fun _ => F ) cv7.enc
theorem h_spec_HasherNew {γ : Type} : HdOk (γ := γ) PP 130 (H_spec_HasherNew spec_HasherNew) := hd_ok ok_spec_HasherNew
noncomputable def E_spec_HasherOk (spec_l01In : Int → Int → Int → Option Bool) (h_0 : SHasher) : Option Bool :=
  bif ((h_0.fState.size : Int) == 32) then
    bif (decide ((h_0.fRest.size : Int) < 64)) then
      (spec_l01In h_0.fCount (0 : Int) (1000000000 : Int)).bind fun r0 =>
      bif r0 then
        some ((h_0.fCount.tmod 64) == (h_0.fRest.size : Int))
      else
        some false
    else
      some false
  else
    some false
noncomputable def spec_HasherOk (h_0 : SHasher) : Option Bool := E_spec_HasherOk spec_l01In h_0
theorem e_spec_HasherOk (spec_l01In : Int → Int → Int → Option Bool) : EntryIs0 ctx PP 161 [] [(60, H_spec_l01In spec_l01In)] cv7 cv3 (fun a => E_spec_HasherOk spec_l01In a) := fun a => by kernel_rfl
theorem ok_spec_HasherOk : Tells ctx PP 161 cv7 cv3 (fun a => spec_HasherOk a) := fn_ok0 (hl_cons h_spec_l01In hl_nil) Tryd.func161 (e_spec_HasherOk spec_l01In)
noncomputable def H_spec_HasherOk {γ : Type} (F : SHasher → Option Bool) : Hd ctx γ := hdl cv7.dec (fun a => F a) cv3.enc
theorem h_spec_HasherOk {γ : Type} : HdOk (γ := γ) PP 161 (H_spec_HasherOk spec_HasherOk) := hd_ok ok_spec_HasherOk
noncomputable def E_spec_l05Word  (s_0 : ByteArray) (at_1 : Int) : Option Int :=
  bif ((decide (0 ≤ at_1)) && (decide (at_1 < (s_0.size : Int)))) then
  bif ((decide (0 ≤ (w64 (at_1 + 1)))) && (decide ((w64 (at_1 + 1)) < (s_0.size : Int)))) then
  bif ((decide (0 ≤ (w64 (at_1 + 2)))) && (decide ((w64 (at_1 + 2)) < (s_0.size : Int)))) then
  bif ((decide (0 ≤ (w64 (at_1 + 3)))) && (decide ((w64 (at_1 + 3)) < (s_0.size : Int)))) then
  some (w32 ((w32 ((w32 ((w32 ((w32 (bt s_0 at_1)) * 16777216)) + (w32 ((w32 (bt s_0 (w64 (at_1 + 1)))) * 65536)))) + (w32 ((w32 (bt s_0 (w64 (at_1 + 2)))) * 256)))) + (w32 (bt s_0 (w64 (at_1 + 3))))))
  else none
  else none
  else none
  else none
noncomputable def spec_l05Word (s_0 : ByteArray) (at_1 : Int) : Option Int := E_spec_l05Word  s_0 at_1
theorem e_spec_l05Word  : EntryIs0 ctx PP 177 [] [] cv8 cv9 (fun a => E_spec_l05Word  a.1 a.2) := fun a => by kernel_rfl
theorem ok_spec_l05Word : Tells ctx PP 177 cv8 cv9 (fun a => spec_l05Word a.1 a.2) := fn_ok0 hl_nil Tryd.func177 (e_spec_l05Word )
noncomputable def H_spec_l05Word {γ : Type} (F : ByteArray → Int → Option Int) : Hd ctx γ := hdl cv8.dec (fun a => F a.1 a.2) cv9.enc
theorem h_spec_l05Word {γ : Type} : HdOk (γ := γ) PP 177 (H_spec_l05Word spec_l05Word) := hd_ok ok_spec_l05Word
noncomputable def todo_spec_l05Words_0 : List Go.Item := [.code (cAt (bodyOf Tryd.f162) [1, 1, 0, 1, 0, 0, 0, 0]), .code (cAt (bodyOf Tryd.f162) [1, 1, 0, 1, 0, 0, 0, 1]), .code (cAt (bodyOf Tryd.f162) [1, 1, 0, 1, 0, 0, 1]), .inLoop (cAt (bodyOf Tryd.f162) [1, 1, 0, 1, 0, 0]), .inBlock 0, .code (cAt (bodyOf Tryd.f162) [1, 1, 1])]
inductive St_spec_l05Words where
  | c0 (s_0 : ByteArray) (i_4 : Int) (out_3 : (List Int))
noncomputable def at_spec_l05Words : St_spec_l05Words → LI
  | .c0 s_0 i_4 out_3 => (todo_spec_l05Words_0, [(0, [.one (.str s_0)]), (3, [.one (.own 240)]), (4, [.one (.int .i64 i_4)])], [(240, .sl 138 out_3)])
noncomputable def E_spec_l05Words (spec_l05Word : ByteArray → Int → Option Int) (k : St_spec_l05Words → Option (List Int)) (s_0 : ByteArray) : Option (List Int) :=
  k (.c0 s_0 (0 : Int) [])
noncomputable def B_spec_l05Words (spec_l05Word : ByteArray → Int → Option Int) (k : St_spec_l05Words → Option (List Int)) : St_spec_l05Words → Option (List Int)
  | .c0 s_0 i_4 out_3 =>
    bif (decide ((w64 (i_4 + 4)) ≤ (s_0.size : Int))) then
      (spec_l05Word s_0 i_4).bind fun r0 =>
      bif (decide (((out_3.length + 1) * 4) ≤ 140737488355328)) then
      k (.c0 s_0 (w64 (i_4 + 4)) (out_3 ++ [r0]))
      else none
    else
      some out_3
noncomputable def L_spec_l05Words : Nat → St_spec_l05Words → Option (List Int)
  | 0, _ => none
  | m + 1, s => B_spec_l05Words spec_l05Word (L_spec_l05Words m) s
noncomputable def spec_l05Words (s_0 : ByteArray) : Option (List Int) := E_spec_l05Words spec_l05Word (L_spec_l05Words gas) s_0
theorem e_spec_l05Words (spec_l05Word : ByteArray → Int → Option Int) : EntryIs ctx PP 162 [] [(177, H_spec_l05Word spec_l05Word)] cv1 cv5 at_spec_l05Words (fun k a => E_spec_l05Words spec_l05Word k a) := fun stop a => by kernel_rfl
theorem b_spec_l05Words (spec_l05Word : ByteArray → Int → Option Int) : CutIs ctx PP 162 Tryd.f162 [] [(177, H_spec_l05Word spec_l05Word)] cv5 at_spec_l05Words (B_spec_l05Words spec_l05Word) := fun stop s => by cases s <;> kernel_rfl
theorem i_spec_l05Words : ∀ s s', at_spec_l05Words s = at_spec_l05Words s' → s = s' := by
  intro s s' h
  cases s with
  | c0 v0 v1 v2 => cases s' with
    | c0 w0 w1 w2 => cases h; rfl
theorem ok_spec_l05Words : Tells ctx PP 162 cv1 cv5 (fun a => spec_l05Words a) := fn_ok (hl_cons h_spec_l05Word hl_nil) Tryd.func162 i_spec_l05Words (fun _ => rfl) (fun _ _ => rfl) (b_spec_l05Words spec_l05Word) (e_spec_l05Words spec_l05Word) gas
noncomputable def H_spec_l05Words {γ : Type} (F : ByteArray → Option (List Int)) : Hd ctx γ := hdl cv1.dec (fun a => F a) cv5.enc
theorem h_spec_l05Words {γ : Type} : HdOk (γ := γ) PP 162 (H_spec_l05Words spec_l05Words) := hd_ok ok_spec_l05Words
noncomputable def E_spec_l05K   : Option (List Int) :=
  some [(1116352408 : Int), (1899447441 : Int), (3049323471 : Int), (3921009573 : Int), (961987163 : Int), (1508970993 : Int), (2453635748 : Int), (2870763221 : Int), (3624381080 : Int), (310598401 : Int), (607225278 : Int), (1426881987 : Int), (1925078388 : Int), (2162078206 : Int), (2614888103 : Int), (3248222580 : Int), (3835390401 : Int), (4022224774 : Int), (264347078 : Int), (604807628 : Int), (770255983 : Int), (1249150122 : Int), (1555081692 : Int), (1996064986 : Int), (2554220882 : Int), (2821834349 : Int), (2952996808 : Int), (3210313671 : Int), (3336571891 : Int), (3584528711 : Int), (113926993 : Int), (338241895 : Int), (666307205 : Int), (773529912 : Int), (1294757372 : Int), (1396182291 : Int), (1695183700 : Int), (1986661051 : Int), (2177026350 : Int), (2456956037 : Int), (2730485921 : Int), (2820302411 : Int), (3259730800 : Int), (3345764771 : Int), (3516065817 : Int), (3600352804 : Int), (4094571909 : Int), (275423344 : Int), (430227734 : Int), (506948616 : Int), (659060556 : Int), (883997877 : Int), (958139571 : Int), (1322822218 : Int), (1537002063 : Int), (1747873779 : Int), (1955562222 : Int), (2024104815 : Int), (2227730452 : Int), (2361852424 : Int), (2428436474 : Int), (2756734187 : Int), (3204031479 : Int), (3329325298 : Int)]
noncomputable def spec_l05K  : Option (List Int) := E_spec_l05K  
theorem e_spec_l05K  : EntryIs0 ctx PP 163 [] [] cv4 cv5 (fun _ => E_spec_l05K  ) := fun a => by kernel_rfl
theorem ok_spec_l05K : Tells ctx PP 163 cv4 cv5 (fun _ => spec_l05K ) := fn_ok0 hl_nil Tryd.func163 (e_spec_l05K )
noncomputable def H_spec_l05K {γ : Type} (F : Option (List Int)) : Hd ctx γ := hdl cv4.dec (fun _ => F ) cv5.enc
theorem h_spec_l05K {γ : Type} : HdOk (γ := γ) PP 163 (H_spec_l05K spec_l05K) := hd_ok ok_spec_l05K
noncomputable def E_spec_l05Right  (x_0 : Int) (low_1 : Int) (high_2 : Int) : Option Int :=
  bif (!(low_1 == 0)) then
  bif (!(low_1 == 0)) then
  some (w32 ((w32 (x_0.tdiv low_1)) + (w32 ((x_0.tmod low_1) * high_2))))
  else none
  else none
noncomputable def spec_l05Right (x_0 : Int) (low_1 : Int) (high_2 : Int) : Option Int := E_spec_l05Right  x_0 low_1 high_2
theorem e_spec_l05Right  : EntryIs0 ctx PP 181 [] [] cv10 cv9 (fun a => E_spec_l05Right  a.1 a.2.1 a.2.2) := fun a => by kernel_rfl
theorem ok_spec_l05Right : Tells ctx PP 181 cv10 cv9 (fun a => spec_l05Right a.1 a.2.1 a.2.2) := fn_ok0 hl_nil Tryd.func181 (e_spec_l05Right )
noncomputable def H_spec_l05Right {γ : Type} (F : Int → Int → Int → Option Int) : Hd ctx γ := hdl cv10.dec (fun a => F a.1 a.2.1 a.2.2) cv9.enc
theorem h_spec_l05Right {γ : Type} : HdOk (γ := γ) PP 181 (H_spec_l05Right spec_l05Right) := hd_ok ok_spec_l05Right
noncomputable def E_spec_l05S (spec_l05Right : Int → Int → Int → Option Int) (x_0 : Int) (a_1 : Int) (b_2 : Int) (c_3 : Int) (last_4 : Bool) : Option Int :=
  bif (!(a_1 == 0)) then
  (spec_l05Right x_0 a_1 (w32 ((w32 ((2147483648 : Int).tdiv a_1)) * 2))).bind fun r0 =>
  bif (!(b_2 == 0)) then
  (spec_l05Right x_0 b_2 (w32 ((w32 ((2147483648 : Int).tdiv b_2)) * 2))).bind fun r1 =>
  bif (!(c_3 == 0)) then
  bif (!last_4) then
    bif (!(c_3 == 0)) then
    (spec_l05Right x_0 c_3 (w32 ((w32 ((2147483648 : Int).tdiv c_3)) * 2))).bind fun r2 =>
    some (w32 (((BitVec.toNat ((BitVec.ofInt (IntKind.bits IntKind.u32) (w32 (((BitVec.toNat ((BitVec.ofInt (IntKind.bits IntKind.u32) r0) ^^^ (BitVec.ofInt (IntKind.bits IntKind.u32) r1))) : Nat) : Int))) ^^^ (BitVec.ofInt (IntKind.bits IntKind.u32) r2))) : Nat) : Int))
    else none
  else
    some (w32 (((BitVec.toNat ((BitVec.ofInt (IntKind.bits IntKind.u32) (w32 (((BitVec.toNat ((BitVec.ofInt (IntKind.bits IntKind.u32) r0) ^^^ (BitVec.ofInt (IntKind.bits IntKind.u32) r1))) : Nat) : Int))) ^^^ (BitVec.ofInt (IntKind.bits IntKind.u32) (w32 (x_0.tdiv c_3))))) : Nat) : Int))
  else none
  else none
  else none
noncomputable def spec_l05S (x_0 : Int) (a_1 : Int) (b_2 : Int) (c_3 : Int) (last_4 : Bool) : Option Int := E_spec_l05S spec_l05Right x_0 a_1 b_2 c_3 last_4
theorem e_spec_l05S (spec_l05Right : Int → Int → Int → Option Int) : EntryIs0 ctx PP 178 [] [(181, H_spec_l05Right spec_l05Right)] cv11 cv9 (fun a => E_spec_l05S spec_l05Right a.1 a.2.1 a.2.2.1 a.2.2.2.1 a.2.2.2.2) := fun a => by kernel_rfl
theorem ok_spec_l05S : Tells ctx PP 178 cv11 cv9 (fun a => spec_l05S a.1 a.2.1 a.2.2.1 a.2.2.2.1 a.2.2.2.2) := fn_ok0 (hl_cons h_spec_l05Right hl_nil) Tryd.func178 (e_spec_l05S spec_l05Right)
noncomputable def H_spec_l05S {γ : Type} (F : Int → Int → Int → Int → Bool → Option Int) : Hd ctx γ := hdl cv11.dec (fun a => F a.1 a.2.1 a.2.2.1 a.2.2.2.1 a.2.2.2.2) cv9.enc
theorem h_spec_l05S {γ : Type} : HdOk (γ := γ) PP 178 (H_spec_l05S spec_l05S) := hd_ok ok_spec_l05S
noncomputable def todo_spec_l05Round_0 : List Go.Item := [.code (cAt (bodyOf Tryd.f164) [1, 1, 0, 1, 0, 0, 0, 0]), .code (cAt (bodyOf Tryd.f164) [1, 1, 0, 1, 0, 0, 0, 1]), .code (cAt (bodyOf Tryd.f164) [1, 1, 0, 1, 0, 0, 1]), .inLoop (cAt (bodyOf Tryd.f164) [1, 1, 0, 1, 0, 0]), .inBlock 0, .code (cAt (bodyOf Tryd.f164) [1, 1, 1])]
noncomputable def todo_spec_l05Round_1 : List Go.Item := [.code (cAt (bodyOf Tryd.f164) [1, 1, 1, 1, 0, 1, 0, 0, 0, 0]), .code (cAt (bodyOf Tryd.f164) [1, 1, 1, 1, 0, 1, 0, 0, 0, 1]), .code (cAt (bodyOf Tryd.f164) [1, 1, 1, 1, 0, 1, 0, 0, 1]), .inLoop (cAt (bodyOf Tryd.f164) [1, 1, 1, 1, 0, 1, 0, 0]), .inBlock 2, .code (cAt (bodyOf Tryd.f164) [1, 1, 1, 1, 1])]
noncomputable def todo_spec_l05Round_2 : List Go.Item := [.code (cAt (bodyOf Tryd.f164) [1, 1, 1, 1, 0, 1, 0, 0, 1, 0, 0, 1, 1, 1, 1, 1, 0, 1, 0, 0, 0, 0]), .code (cAt (bodyOf Tryd.f164) [1, 1, 1, 1, 0, 1, 0, 0, 1, 0, 0, 1, 1, 1, 1, 1, 0, 1, 0, 0, 0, 1]), .code (cAt (bodyOf Tryd.f164) [1, 1, 1, 1, 0, 1, 0, 0, 1, 0, 0, 1, 1, 1, 1, 1, 0, 1, 0, 0, 1]), .inLoop (cAt (bodyOf Tryd.f164) [1, 1, 1, 1, 0, 1, 0, 0, 1, 0, 0, 1, 1, 1, 1, 1, 0, 1, 0, 0]), .inBlock 4, .code (cAt (bodyOf Tryd.f164) [1, 1, 1, 1, 0, 1, 0, 0, 1, 0, 0, 1, 1, 1, 1, 1, 1]), .inBlock 3, .code (cAt (bodyOf Tryd.f164) [1, 1, 1, 1, 0, 1, 0, 0, 1, 1]), .inLoop (cAt (bodyOf Tryd.f164) [1, 1, 1, 1, 0, 1, 0, 0]), .inBlock 2, .code (cAt (bodyOf Tryd.f164) [1, 1, 1, 1, 1])]
noncomputable def todo_spec_l05Round_3 : List Go.Item := [.code (cAt (bodyOf Tryd.f164) [1, 1, 1, 1, 1, 1, 0, 1, 0, 0, 0, 0]), .code (cAt (bodyOf Tryd.f164) [1, 1, 1, 1, 1, 1, 0, 1, 0, 0, 0, 1]), .code (cAt (bodyOf Tryd.f164) [1, 1, 1, 1, 1, 1, 0, 1, 0, 0, 1]), .inLoop (cAt (bodyOf Tryd.f164) [1, 1, 1, 1, 1, 1, 0, 1, 0, 0]), .inBlock 6, .code (cAt (bodyOf Tryd.f164) [1, 1, 1, 1, 1, 1, 1])]
inductive St_spec_l05Round where
  | c0 (t_0 : (List Int)) (o_1 : (List Int)) (v_8 : Int) (v_7 : (List Int))
  | c1 (t_0 : (List Int)) (o_1 : (List Int)) (v_10 : Int) (v_7 : (List Int)) (v_9 : (List Int))
  | c2 (t_0 : (List Int)) (o_1 : (List Int)) (v_10 : Int) (v_13 : Int) (v_15 : Int) (v_16 : Int) (v_7 : (List Int)) (v_9 : (List Int))
  | c3 (t_0 : (List Int)) (v_18 : Int) (v_9 : (List Int)) (v_17 : (List Int))
noncomputable def at_spec_l05Round : St_spec_l05Round → LI
  | .c0 t_0 o_1 v_8 v_7 => (todo_spec_l05Round_0, [(0, [.one (.rsl 138 t_0)]), (1, [.one (.rsl 138 o_1)]), (7, [.one (.own 496)]), (8, [.one (.int .i64 v_8)])], [(496, .sl 138 v_7)])
  | .c1 t_0 o_1 v_10 v_7 v_9 => (todo_spec_l05Round_1, [(0, [.one (.rsl 138 t_0)]), (1, [.one (.rsl 138 o_1)]), (7, [.one (.own 496)]), (9, [.one (.own 624)]), (10, [.one (.int .i64 v_10)])], [(496, .sl 138 v_7), (624, .sl 138 v_9)])
  | .c2 t_0 o_1 v_10 v_13 v_15 v_16 v_7 v_9 => (todo_spec_l05Round_2, [(0, [.one (.rsl 138 t_0)]), (1, [.one (.rsl 138 o_1)]), (7, [.one (.own 496)]), (9, [.one (.own 624)]), (10, [.one (.int .i64 v_10)]), (13, [.one (.int .u32 v_13)]), (15, [.one (.int .u32 v_15)]), (16, [.one (.int .i64 v_16)])], [(496, .sl 138 v_7), (624, .sl 138 v_9)])
  | .c3 t_0 v_18 v_9 v_17 => (todo_spec_l05Round_3, [(0, [.one (.rsl 138 t_0)]), (9, [.one (.own 624)]), (17, [.one (.own 1136)]), (18, [.one (.int .i64 v_18)])], [(624, .sl 138 v_9), (1136, .sl 138 v_17)])
noncomputable def E_spec_l05Round (spec_l05Words : ByteArray → Option (List Int)) (spec_l05S : Int → Int → Int → Int → Bool → Option Int) (k : St_spec_l05Round → Option (List Int)) (t_0 : (List Int)) (o_1 : (List Int)) (A_2 : ByteArray) : Option (List Int) :=
  (spec_l05Words A_2).bind fun r0 =>
  k (.c0 t_0 o_1 (16 : Int) r0)
noncomputable def B_spec_l05Round (spec_l05Words : ByteArray → Option (List Int)) (spec_l05S : Int → Int → Int → Int → Bool → Option Int) (k : St_spec_l05Round → Option (List Int)) : St_spec_l05Round → Option (List Int)
  | .c0 t_0 o_1 v_8 v_7 =>
    bif (decide (v_8 < 64)) then
      bif ((decide (0 ≤ (w64 (v_8 - 2)))) && (decide ((w64 (v_8 - 2)) < (v_7.length : Int)))) then
      (spec_l05S (v_7.getD (w64 (v_8 - 2)).toNat 0) (131072 : Int) (524288 : Int) (1024 : Int) true).bind fun r0 =>
      bif ((decide (0 ≤ (w64 (v_8 - 7)))) && (decide ((w64 (v_8 - 7)) < (v_7.length : Int)))) then
      bif ((decide (0 ≤ (w64 (v_8 - 15)))) && (decide ((w64 (v_8 - 15)) < (v_7.length : Int)))) then
      (spec_l05S (v_7.getD (w64 (v_8 - 15)).toNat 0) (128 : Int) (262144 : Int) (8 : Int) true).bind fun r1 =>
      bif ((decide (0 ≤ (w64 (v_8 - 16)))) && (decide ((w64 (v_8 - 16)) < (v_7.length : Int)))) then
      bif (decide (((v_7.length + 1) * 4) ≤ 140737488355328)) then
      k (.c0 t_0 o_1 (w64 (v_8 + 1)) (v_7 ++ [(w32 ((w32 ((w32 (r0 + (v_7.getD (w64 (v_8 - 7)).toNat 0))) + r1)) + (v_7.getD (w64 (v_8 - 16)).toNat 0)))]))
      else none
      else none
      else none
      else none
      else none
    else
      bif (decide (((0 + t_0.length) * 4) ≤ 140737488355328)) then
      k (.c1 t_0 o_1 (0 : Int) v_7 ([] ++ t_0))
      else none
  | .c1 t_0 o_1 v_10 v_7 v_9 =>
    bif (decide (v_10 < 64)) then
      bif ((decide ((0 : Int) ≤ (4 : Int))) && (decide (4 < (v_9.length : Int)))) then
      bif ((decide ((0 : Int) ≤ (5 : Int))) && (decide (5 < (v_9.length : Int)))) then
      bif ((decide ((0 : Int) ≤ (6 : Int))) && (decide (6 < (v_9.length : Int)))) then
      bif ((decide ((0 : Int) ≤ (7 : Int))) && (decide (7 < (v_9.length : Int)))) then
      (spec_l05S (v_9.getD (4 : Int).toNat 0) (64 : Int) (2048 : Int) (33554432 : Int) false).bind fun r0 =>
      bif ((decide (0 ≤ v_10)) && (decide (v_10 < (o_1.length : Int)))) then
      bif ((decide (0 ≤ v_10)) && (decide (v_10 < (v_7.length : Int)))) then
      bif ((decide ((0 : Int) ≤ (0 : Int))) && (decide (0 < (v_9.length : Int)))) then
      bif ((decide ((0 : Int) ≤ (1 : Int))) && (decide (1 < (v_9.length : Int)))) then
      bif ((decide ((0 : Int) ≤ (0 : Int))) && (decide (0 < (v_9.length : Int)))) then
      bif ((decide ((0 : Int) ≤ (2 : Int))) && (decide (2 < (v_9.length : Int)))) then
      bif ((decide ((0 : Int) ≤ (1 : Int))) && (decide (1 < (v_9.length : Int)))) then
      bif ((decide ((0 : Int) ≤ (2 : Int))) && (decide (2 < (v_9.length : Int)))) then
      bif ((decide ((0 : Int) ≤ (0 : Int))) && (decide (0 < (v_9.length : Int)))) then
      (spec_l05S (v_9.getD (0 : Int).toNat 0) (4 : Int) (8192 : Int) (4194304 : Int) false).bind fun r1 =>
      k (.c2 t_0 o_1 v_10 (w32 ((w32 ((w32 ((w32 ((v_9.getD (7 : Int).toNat 0) + r0)) + (w32 (((BitVec.toNat ((BitVec.ofInt (IntKind.bits IntKind.u32) (w32 (((BitVec.toNat ((BitVec.ofInt (IntKind.bits IntKind.u32) (v_9.getD (4 : Int).toNat 0)) &&& (BitVec.ofInt (IntKind.bits IntKind.u32) (v_9.getD (5 : Int).toNat 0)))) : Nat) : Int))) ^^^ (BitVec.ofInt (IntKind.bits IntKind.u32) (w32 (((BitVec.toNat ((BitVec.ofInt (IntKind.bits IntKind.u32) (w32 (4294967295 - (v_9.getD (4 : Int).toNat 0)))) &&& (BitVec.ofInt (IntKind.bits IntKind.u32) (v_9.getD (6 : Int).toNat 0)))) : Nat) : Int))))) : Nat) : Int)))) + (o_1.getD v_10.toNat 0))) + (v_7.getD v_10.toNat 0))) (w32 (r1 + (w32 (((BitVec.toNat ((BitVec.ofInt (IntKind.bits IntKind.u32) (w32 (((BitVec.toNat ((BitVec.ofInt (IntKind.bits IntKind.u32) (w32 (((BitVec.toNat ((BitVec.ofInt (IntKind.bits IntKind.u32) (v_9.getD (0 : Int).toNat 0)) &&& (BitVec.ofInt (IntKind.bits IntKind.u32) (v_9.getD (1 : Int).toNat 0)))) : Nat) : Int))) ^^^ (BitVec.ofInt (IntKind.bits IntKind.u32) (w32 (((BitVec.toNat ((BitVec.ofInt (IntKind.bits IntKind.u32) (v_9.getD (0 : Int).toNat 0)) &&& (BitVec.ofInt (IntKind.bits IntKind.u32) (v_9.getD (2 : Int).toNat 0)))) : Nat) : Int))))) : Nat) : Int))) ^^^ (BitVec.ofInt (IntKind.bits IntKind.u32) (w32 (((BitVec.toNat ((BitVec.ofInt (IntKind.bits IntKind.u32) (v_9.getD (1 : Int).toNat 0)) &&& (BitVec.ofInt (IntKind.bits IntKind.u32) (v_9.getD (2 : Int).toNat 0)))) : Nat) : Int))))) : Nat) : Int)))) (7 : Int) v_7 v_9)
      else none
      else none
      else none
      else none
      else none
      else none
      else none
      else none
      else none
      else none
      else none
      else none
      else none
    else
      k (.c3 t_0 (0 : Int) v_9 [])
  | .c2 t_0 o_1 v_10 v_13 v_15 v_16 v_7 v_9 =>
    bif (decide (v_16 > 0)) then
      bif ((decide (0 ≤ (w64 (v_16 - 1)))) && (decide ((w64 (v_16 - 1)) < (v_9.length : Int)))) then
      bif ((decide (0 ≤ v_16)) && (decide (v_16 < (v_9.length : Int)))) then
      k (.c2 t_0 o_1 v_10 v_13 v_15 (w64 (v_16 - 1)) v_7 (v_9.set v_16.toNat (v_9.getD (w64 (v_16 - 1)).toNat 0)))
      else none
      else none
    else
      bif ((decide ((0 : Int) ≤ (4 : Int))) && (decide (4 < (v_9.length : Int)))) then
      bif ((decide ((0 : Int) ≤ (4 : Int))) && (decide (4 < (v_9.length : Int)))) then
      bif ((decide ((0 : Int) ≤ (0 : Int))) && (decide (0 < ((v_9.set (4 : Int).toNat (w32 ((v_9.getD (4 : Int).toNat 0) + v_13))).length : Int)))) then
      k (.c1 t_0 o_1 (w64 (v_10 + 1)) v_7 ((v_9.set (4 : Int).toNat (w32 ((v_9.getD (4 : Int).toNat 0) + v_13))).set (0 : Int).toNat (w32 (v_13 + v_15))))
      else none
      else none
      else none
  | .c3 t_0 v_18 v_9 v_17 =>
    bif (decide (v_18 < 8)) then
      bif ((decide (0 ≤ v_18)) && (decide (v_18 < (t_0.length : Int)))) then
      bif ((decide (0 ≤ v_18)) && (decide (v_18 < (v_9.length : Int)))) then
      bif (decide (((v_17.length + 1) * 4) ≤ 140737488355328)) then
      k (.c3 t_0 (w64 (v_18 + 1)) v_9 (v_17 ++ [(w32 ((t_0.getD v_18.toNat 0) + (v_9.getD v_18.toNat 0)))]))
      else none
      else none
      else none
    else
      some v_17
noncomputable def L_spec_l05Round : Nat → St_spec_l05Round → Option (List Int)
  | 0, _ => none
  | m + 1, s => B_spec_l05Round spec_l05Words spec_l05S (L_spec_l05Round m) s
noncomputable def spec_l05Round (t_0 : (List Int)) (o_1 : (List Int)) (A_2 : ByteArray) : Option (List Int) := E_spec_l05Round spec_l05Words spec_l05S (L_spec_l05Round gas) t_0 o_1 A_2
theorem e_spec_l05Round (spec_l05Words : ByteArray → Option (List Int)) (spec_l05S : Int → Int → Int → Int → Bool → Option Int) : EntryIs ctx PP 164 [] [(162, H_spec_l05Words spec_l05Words), (178, H_spec_l05S spec_l05S)] cv12 cv5 at_spec_l05Round (fun k a => E_spec_l05Round spec_l05Words spec_l05S k a.1 a.2.1 a.2.2) := fun stop a => by kernel_rfl
theorem b_spec_l05Round (spec_l05Words : ByteArray → Option (List Int)) (spec_l05S : Int → Int → Int → Int → Bool → Option Int) : CutIs ctx PP 164 Tryd.f164 [] [(162, H_spec_l05Words spec_l05Words), (178, H_spec_l05S spec_l05S)] cv5 at_spec_l05Round (B_spec_l05Round spec_l05Words spec_l05S) := fun stop s => by cases s <;> kernel_rfl
theorem i_spec_l05Round : ∀ s s', at_spec_l05Round s = at_spec_l05Round s' → s = s' := by
  intro s s' h
  cases s with
  | c0 v0 v1 v2 v3 => cases s' with
    | c0 w0 w1 w2 w3 => cases h; rfl
    | c1 w0 w1 w2 w3 w4 => exact (region_ne 3 8 h (by kernel_rfl) (by kernel_rfl) rfl).elim
    | c2 w0 w1 w2 w3 w4 w5 w6 w7 => exact (region_ne 3 16 h (by kernel_rfl) (by kernel_rfl) rfl).elim
    | c3 w0 w1 w2 w3 => exact (region_ne 3 23 h (by kernel_rfl) (by kernel_rfl) rfl).elim
  | c1 v0 v1 v2 v3 v4 => cases s' with
    | c0 w0 w1 w2 w3 => exact (region_ne 8 3 h (by kernel_rfl) (by kernel_rfl) rfl).elim
    | c1 w0 w1 w2 w3 w4 => cases h; rfl
    | c2 w0 w1 w2 w3 w4 w5 w6 w7 => exact (region_ne 8 16 h (by kernel_rfl) (by kernel_rfl) rfl).elim
    | c3 w0 w1 w2 w3 => exact (region_ne 8 23 h (by kernel_rfl) (by kernel_rfl) rfl).elim
  | c2 v0 v1 v2 v3 v4 v5 v6 v7 => cases s' with
    | c0 w0 w1 w2 w3 => exact (region_ne 16 3 h (by kernel_rfl) (by kernel_rfl) rfl).elim
    | c1 w0 w1 w2 w3 w4 => exact (region_ne 16 8 h (by kernel_rfl) (by kernel_rfl) rfl).elim
    | c2 w0 w1 w2 w3 w4 w5 w6 w7 => cases h; rfl
    | c3 w0 w1 w2 w3 => exact (region_ne 16 23 h (by kernel_rfl) (by kernel_rfl) rfl).elim
  | c3 v0 v1 v2 v3 => cases s' with
    | c0 w0 w1 w2 w3 => exact (region_ne 23 3 h (by kernel_rfl) (by kernel_rfl) rfl).elim
    | c1 w0 w1 w2 w3 w4 => exact (region_ne 23 8 h (by kernel_rfl) (by kernel_rfl) rfl).elim
    | c2 w0 w1 w2 w3 w4 w5 w6 w7 => exact (region_ne 23 16 h (by kernel_rfl) (by kernel_rfl) rfl).elim
    | c3 w0 w1 w2 w3 => cases h; rfl
theorem ok_spec_l05Round : Tells ctx PP 164 cv12 cv5 (fun a => spec_l05Round a.1 a.2.1 a.2.2) := fn_ok (hl_cons h_spec_l05Words (hl_cons h_spec_l05S hl_nil)) Tryd.func164 i_spec_l05Round (fun _ => rfl) (fun _ _ => rfl) (b_spec_l05Round spec_l05Words spec_l05S) (e_spec_l05Round spec_l05Words spec_l05S) gas
noncomputable def H_spec_l05Round {γ : Type} (F : (List Int) → (List Int) → ByteArray → Option (List Int)) : Hd ctx γ := hdl cv12.dec (fun a => F a.1 a.2.1 a.2.2) cv5.enc
theorem h_spec_l05Round {γ : Type} : HdOk (γ := γ) PP 164 (H_spec_l05Round spec_l05Round) := hd_ok ok_spec_l05Round
noncomputable def todo_spec_HashMore_0 : List Go.Item := [.code (cAt (bodyOf Tryd.f129) [1, 1, 1, 1, 1, 1, 0, 0, 0, 0, 0]), .code (cAt (bodyOf Tryd.f129) [1, 1, 1, 1, 1, 1, 0, 0, 0, 0, 1]), .code (cAt (bodyOf Tryd.f129) [1, 1, 1, 1, 1, 1, 0, 0, 0, 1]), .inLoop (cAt (bodyOf Tryd.f129) [1, 1, 1, 1, 1, 1, 0, 0, 0]), .inBlock 0, .code (cAt (bodyOf Tryd.f129) [1, 1, 1, 1, 1, 1, 1])]
inductive St_spec_HashMore where
  | c0 (s_1 : ByteArray) (buf_7 : ByteArray) (at_8 : Int) (h_2 : SHasher) (v_4 : SHasher) (state_5 : (List Int)) (k_6 : (List Int))
noncomputable def at_spec_HashMore : St_spec_HashMore → LI
  | .c0 s_1 buf_7 at_8 h_2 v_4 state_5 k_6 => (todo_spec_HashMore_0, [(1, [.one (.str s_1)]), (2, [.one (.ptr 128 0)]), (4, [.one (.ptr 256 0)]), (5, [.one (.own 368)]), (6, [.one (.own 432)]), (7, [.one (.str buf_7)]), (8, [.one (.int .i64 at_8)])], [(128, .var [.str h_2.fState, .str h_2.fRest, .int .i64 h_2.fCount]), (256, .var [.str v_4.fState, .str v_4.fRest, .int .i64 v_4.fCount]), (368, .sl 138 state_5), (432, .sl 138 k_6)])
noncomputable def E_spec_HashMore (spec_HasherOk : SHasher → Option Bool) (spec_l05Words : ByteArray → Option (List Int)) (spec_l05K : Option (List Int)) (spec_l05Round : (List Int) → (List Int) → ByteArray → Option (List Int)) (spec_l05Bytes : (List Int) → Option ByteArray) (k : St_spec_HashMore → Option SHasher) (h_0 : SHasher) (s_1 : ByteArray) : Option SHasher :=
  (spec_HasherOk h_0).bind fun r0 =>
  bif (!r0) then
    some h_0
  else
    bif (decide ((w64 (h_0.fCount + (s_1.size : Int))) > 1000000000)) then
      some h_0
    else
      (spec_l05Words h_0.fState).bind fun r1 =>
      spec_l05K.bind fun r2 =>
      bif (decide ((h_0.fRest.size + s_1.size) ≤ 9223372036854775807)) then
      k (.c0 s_1 (h_0.fRest ++ s_1) (0 : Int) h_0 (⟨(⟨#[]⟩ : ByteArray), (⟨#[]⟩ : ByteArray), (0 : Int)⟩ : SHasher) r1 r2)
      else none
noncomputable def B_spec_HashMore (spec_HasherOk : SHasher → Option Bool) (spec_l05Words : ByteArray → Option (List Int)) (spec_l05K : Option (List Int)) (spec_l05Round : (List Int) → (List Int) → ByteArray → Option (List Int)) (spec_l05Bytes : (List Int) → Option ByteArray) (k : St_spec_HashMore → Option SHasher) : St_spec_HashMore → Option SHasher
  | .c0 s_1 buf_7 at_8 h_2 v_4 state_5 k_6 =>
    bif (decide ((w64 (at_8 + 64)) ≤ (buf_7.size : Int))) then
      bif (((decide (0 ≤ at_8)) && (decide (at_8 ≤ (w64 (at_8 + 64))))) && (decide ((w64 (at_8 + 64)) ≤ (buf_7.size : Int)))) then
      (spec_l05Round state_5 k_6 (buf_7.extract at_8.toNat (w64 (at_8 + 64)).toNat)).bind fun r0 =>
      k (.c0 s_1 buf_7 (w64 (at_8 + 64)) h_2 v_4 r0 k_6)
      else none
    else
      (spec_l05Bytes state_5).bind fun r1 =>
      bif ((decide (0 ≤ at_8)) && (decide (at_8 ≤ (buf_7.size : Int)))) then
      some (⟨r1, (buf_7.extract at_8.toNat buf_7.size), (w64 (h_2.fCount + (s_1.size : Int)))⟩ : SHasher)
      else none
noncomputable def L_spec_HashMore : Nat → St_spec_HashMore → Option SHasher
  | 0, _ => none
  | m + 1, s => B_spec_HashMore spec_HasherOk spec_l05Words spec_l05K spec_l05Round spec_l05Bytes (L_spec_HashMore m) s
noncomputable def spec_HashMore (h_0 : SHasher) (s_1 : ByteArray) : Option SHasher := E_spec_HashMore spec_HasherOk spec_l05Words spec_l05K spec_l05Round spec_l05Bytes (L_spec_HashMore gas) h_0 s_1
theorem e_spec_HashMore (spec_HasherOk : SHasher → Option Bool) (spec_l05Words : ByteArray → Option (List Int)) (spec_l05K : Option (List Int)) (spec_l05Round : (List Int) → (List Int) → ByteArray → Option (List Int)) (spec_l05Bytes : (List Int) → Option ByteArray) : EntryIs ctx PP 129 [] [(161, H_spec_HasherOk spec_HasherOk), (162, H_spec_l05Words spec_l05Words), (163, H_spec_l05K spec_l05K), (164, H_spec_l05Round spec_l05Round), (165, H_spec_l05Bytes spec_l05Bytes)] cv13 cv7 at_spec_HashMore (fun k a => E_spec_HashMore spec_HasherOk spec_l05Words spec_l05K spec_l05Round spec_l05Bytes k a.1 a.2) := fun stop a => by kernel_rfl
theorem b_spec_HashMore (spec_HasherOk : SHasher → Option Bool) (spec_l05Words : ByteArray → Option (List Int)) (spec_l05K : Option (List Int)) (spec_l05Round : (List Int) → (List Int) → ByteArray → Option (List Int)) (spec_l05Bytes : (List Int) → Option ByteArray) : CutIs ctx PP 129 Tryd.f129 [] [(161, H_spec_HasherOk spec_HasherOk), (162, H_spec_l05Words spec_l05Words), (163, H_spec_l05K spec_l05K), (164, H_spec_l05Round spec_l05Round), (165, H_spec_l05Bytes spec_l05Bytes)] cv7 at_spec_HashMore (B_spec_HashMore spec_HasherOk spec_l05Words spec_l05K spec_l05Round spec_l05Bytes) := fun stop s => by cases s <;> kernel_rfl
theorem i_spec_HashMore : ∀ s s', at_spec_HashMore s = at_spec_HashMore s' → s = s' := by
  intro s s' h
  cases s with
  | c0 v0 v1 v2 v3 v4 v5 v6 => cases s' with
    | c0 w0 w1 w2 w3 w4 w5 w6 => obtain ⟨_, _, _⟩ := v3; obtain ⟨_, _, _⟩ := w3; obtain ⟨_, _, _⟩ := v4; obtain ⟨_, _, _⟩ := w4; cases h; rfl
theorem ok_spec_HashMore : Tells ctx PP 129 cv13 cv7 (fun a => spec_HashMore a.1 a.2) := fn_ok (hl_cons h_spec_HasherOk (hl_cons h_spec_l05Words (hl_cons h_spec_l05K (hl_cons h_spec_l05Round (hl_cons h_spec_l05Bytes hl_nil))))) Tryd.func129 i_spec_HashMore (fun _ => rfl) (fun _ _ => rfl) (b_spec_HashMore spec_HasherOk spec_l05Words spec_l05K spec_l05Round spec_l05Bytes) (e_spec_HashMore spec_HasherOk spec_l05Words spec_l05K spec_l05Round spec_l05Bytes) gas
noncomputable def H_spec_HashMore {γ : Type} (F : SHasher → ByteArray → Option SHasher) : Hd ctx γ := hdl cv13.dec (fun a => F a.1 a.2) cv7.enc
theorem h_spec_HashMore {γ : Type} : HdOk (γ := γ) PP 129 (H_spec_HashMore spec_HashMore) := hd_ok ok_spec_HashMore
noncomputable def todo_spec_HashEnd_0 : List Go.Item := [.code (cAt (bodyOf Tryd.f128) [1, 1, 1, 1, 0, 0, 0, 0, 0]), .code (cAt (bodyOf Tryd.f128) [1, 1, 1, 1, 0, 0, 0, 0, 1]), .code (cAt (bodyOf Tryd.f128) [1, 1, 1, 1, 0, 0, 0, 1]), .inLoop (cAt (bodyOf Tryd.f128) [1, 1, 1, 1, 0, 0, 0]), .inBlock 0, .code (cAt (bodyOf Tryd.f128) [1, 1, 1, 1, 1])]
noncomputable def todo_spec_HashEnd_1 : List Go.Item := [.code (cAt (bodyOf Tryd.f128) [1, 1, 1, 1, 1, 1, 0, 1, 0, 0, 0, 0]), .code (cAt (bodyOf Tryd.f128) [1, 1, 1, 1, 1, 1, 0, 1, 0, 0, 0, 1]), .code (cAt (bodyOf Tryd.f128) [1, 1, 1, 1, 1, 1, 0, 1, 0, 0, 1]), .inLoop (cAt (bodyOf Tryd.f128) [1, 1, 1, 1, 1, 1, 0, 1, 0, 0]), .inBlock 2, .code (cAt (bodyOf Tryd.f128) [1, 1, 1, 1, 1, 1, 1])]
noncomputable def todo_spec_HashEnd_2 : List Go.Item := [.code (cAt (bodyOf Tryd.f128) [1, 1, 1, 1, 1, 1, 0, 1, 0, 0, 1, 0, 0, 1, 0, 1, 0, 0, 0, 0]), .code (cAt (bodyOf Tryd.f128) [1, 1, 1, 1, 1, 1, 0, 1, 0, 0, 1, 0, 0, 1, 0, 1, 0, 0, 0, 1]), .code (cAt (bodyOf Tryd.f128) [1, 1, 1, 1, 1, 1, 0, 1, 0, 0, 1, 0, 0, 1, 0, 1, 0, 0, 1]), .inLoop (cAt (bodyOf Tryd.f128) [1, 1, 1, 1, 1, 1, 0, 1, 0, 0, 1, 0, 0, 1, 0, 1, 0, 0]), .inBlock 4, .code (cAt (bodyOf Tryd.f128) [1, 1, 1, 1, 1, 1, 0, 1, 0, 0, 1, 0, 0, 1, 1]), .inBlock 3, .code (cAt (bodyOf Tryd.f128) [1, 1, 1, 1, 1, 1, 0, 1, 0, 0, 1, 1]), .inLoop (cAt (bodyOf Tryd.f128) [1, 1, 1, 1, 1, 1, 0, 1, 0, 0]), .inBlock 2, .code (cAt (bodyOf Tryd.f128) [1, 1, 1, 1, 1, 1, 1])]
noncomputable def todo_spec_HashEnd_3 : List Go.Item := [.code (cAt (bodyOf Tryd.f128) [1, 1, 1, 1, 1, 1, 1, 1, 1, 0, 1, 0, 0, 0, 0]), .code (cAt (bodyOf Tryd.f128) [1, 1, 1, 1, 1, 1, 1, 1, 1, 0, 1, 0, 0, 0, 1]), .code (cAt (bodyOf Tryd.f128) [1, 1, 1, 1, 1, 1, 1, 1, 1, 0, 1, 0, 0, 1]), .inLoop (cAt (bodyOf Tryd.f128) [1, 1, 1, 1, 1, 1, 1, 1, 1, 0, 1, 0, 0]), .inBlock 6, .code (cAt (bodyOf Tryd.f128) [1, 1, 1, 1, 1, 1, 1, 1, 1, 1])]
inductive St_spec_HashEnd where
  | c0 (h_1 : SHasher) (tail_3 : (List Int))
  | c1 (bits_4 : Int) (i_5 : Int) (h_1 : SHasher) (tail_3 : (List Int))
  | c2 (bits_4 : Int) (i_5 : Int) (x_6 : Int) (k_7 : Int) (h_1 : SHasher) (tail_3 : (List Int))
  | c3 (at_10 : Int) (tail_3 : (List Int)) (state_8 : (List Int)) (k_9 : (List Int))
noncomputable def at_spec_HashEnd : St_spec_HashEnd → LI
  | .c0 h_1 tail_3 => (todo_spec_HashEnd_0, [(1, [.one (.ptr 64 0)]), (3, [.one (.own 240)])], [(64, .var [.str h_1.fState, .str h_1.fRest, .int .i64 h_1.fCount]), (240, .sl 5 tail_3)])
  | .c1 bits_4 i_5 h_1 tail_3 => (todo_spec_HashEnd_1, [(1, [.one (.ptr 64 0)]), (3, [.one (.own 240)]), (4, [.one (.int .i64 bits_4)]), (5, [.one (.int .i64 i_5)])], [(64, .var [.str h_1.fState, .str h_1.fRest, .int .i64 h_1.fCount]), (240, .sl 5 tail_3)])
  | .c2 bits_4 i_5 x_6 k_7 h_1 tail_3 => (todo_spec_HashEnd_2, [(1, [.one (.ptr 64 0)]), (3, [.one (.own 240)]), (4, [.one (.int .i64 bits_4)]), (5, [.one (.int .i64 i_5)]), (6, [.one (.int .i64 x_6)]), (7, [.one (.int .i64 k_7)])], [(64, .var [.str h_1.fState, .str h_1.fRest, .int .i64 h_1.fCount]), (240, .sl 5 tail_3)])
  | .c3 at_10 tail_3 state_8 k_9 => (todo_spec_HashEnd_3, [(3, [.one (.own 240)]), (8, [.one (.own 560)]), (9, [.one (.own 624)]), (10, [.one (.int .i64 at_10)])], [(240, .sl 5 tail_3), (560, .sl 138 state_8), (624, .sl 138 k_9)])
noncomputable def E_spec_HashEnd (spec_HasherOk : SHasher → Option Bool) (spec_l05Words : ByteArray → Option (List Int)) (spec_l05K : Option (List Int)) (spec_l05Round : (List Int) → (List Int) → ByteArray → Option (List Int)) (spec_l05Bytes : (List Int) → Option ByteArray) (k : St_spec_HashEnd → Option ByteArray) (h_0 : SHasher) : Option ByteArray :=
  (spec_HasherOk h_0).bind fun r0 =>
  bif (!r0) then
    some (⟨#[]⟩ : ByteArray)
  else
    bif (decide (h_0.fRest.size ≤ 9223372036854775807)) then
    bif (decide ((((bytesOf h_0.fRest).length + 1) * 1) ≤ 140737488355328)) then
    k (.c0 h_0 ((bytesOf h_0.fRest) ++ [(128 : Int)]))
    else none
    else none
noncomputable def B_spec_HashEnd (spec_HasherOk : SHasher → Option Bool) (spec_l05Words : ByteArray → Option (List Int)) (spec_l05K : Option (List Int)) (spec_l05Round : (List Int) → (List Int) → ByteArray → Option (List Int)) (spec_l05Bytes : (List Int) → Option ByteArray) (k : St_spec_HashEnd → Option ByteArray) : St_spec_HashEnd → Option ByteArray
  | .c0 h_1 tail_3 =>
    bif (((tail_3.length : Int).tmod 64) != 56) then
      bif (decide (((tail_3.length + 1) * 1) ≤ 140737488355328)) then
      k (.c0 h_1 (tail_3 ++ [(0 : Int)]))
      else none
    else
      k (.c1 (w64 (8 * h_1.fCount)) (7 : Int) h_1 tail_3)
  | .c1 bits_4 i_5 h_1 tail_3 =>
    bif (decide (i_5 ≥ 0)) then
      k (.c2 bits_4 i_5 bits_4 (0 : Int) h_1 tail_3)
    else
      (spec_l05Words h_1.fState).bind fun r0 =>
      spec_l05K.bind fun r1 =>
      k (.c3 (0 : Int) tail_3 r0 r1)
  | .c2 bits_4 i_5 x_6 k_7 h_1 tail_3 =>
    bif (decide (k_7 < i_5)) then
      k (.c2 bits_4 i_5 (w64 (x_6.tdiv 256)) (w64 (k_7 + 1)) h_1 tail_3)
    else
      bif (decide (((tail_3.length + 1) * 1) ≤ 140737488355328)) then
      k (.c1 bits_4 (w64 (i_5 - 1)) h_1 (tail_3 ++ [(w8 (x_6.tmod 256))]))
      else none
  | .c3 at_10 tail_3 state_8 k_9 =>
    bif (decide (at_10 < (tail_3.length : Int))) then
      bif (((decide (0 ≤ at_10)) && (decide (at_10 ≤ (w64 (at_10 + 64))))) && (decide ((w64 (at_10 + 64)) ≤ (tail_3.length : Int)))) then
      (spec_l05Round state_8 k_9 (ofBytes ((tail_3.drop at_10.toNat).take ((w64 (at_10 + 64)).toNat - at_10.toNat)))).bind fun r0 =>
      k (.c3 (w64 (at_10 + 64)) tail_3 r0 k_9)
      else none
    else
      (spec_l05Bytes state_8).bind fun r1 =>
      some r1
noncomputable def L_spec_HashEnd : Nat → St_spec_HashEnd → Option ByteArray
  | 0, _ => none
  | m + 1, s => B_spec_HashEnd spec_HasherOk spec_l05Words spec_l05K spec_l05Round spec_l05Bytes (L_spec_HashEnd m) s
noncomputable def spec_HashEnd (h_0 : SHasher) : Option ByteArray := E_spec_HashEnd spec_HasherOk spec_l05Words spec_l05K spec_l05Round spec_l05Bytes (L_spec_HashEnd gas) h_0
theorem e_spec_HashEnd (spec_HasherOk : SHasher → Option Bool) (spec_l05Words : ByteArray → Option (List Int)) (spec_l05K : Option (List Int)) (spec_l05Round : (List Int) → (List Int) → ByteArray → Option (List Int)) (spec_l05Bytes : (List Int) → Option ByteArray) : EntryIs ctx PP 128 [] [(161, H_spec_HasherOk spec_HasherOk), (162, H_spec_l05Words spec_l05Words), (163, H_spec_l05K spec_l05K), (164, H_spec_l05Round spec_l05Round), (165, H_spec_l05Bytes spec_l05Bytes)] cv7 cv1 at_spec_HashEnd (fun k a => E_spec_HashEnd spec_HasherOk spec_l05Words spec_l05K spec_l05Round spec_l05Bytes k a) := fun stop a => by kernel_rfl
theorem b_spec_HashEnd (spec_HasherOk : SHasher → Option Bool) (spec_l05Words : ByteArray → Option (List Int)) (spec_l05K : Option (List Int)) (spec_l05Round : (List Int) → (List Int) → ByteArray → Option (List Int)) (spec_l05Bytes : (List Int) → Option ByteArray) : CutIs ctx PP 128 Tryd.f128 [] [(161, H_spec_HasherOk spec_HasherOk), (162, H_spec_l05Words spec_l05Words), (163, H_spec_l05K spec_l05K), (164, H_spec_l05Round spec_l05Round), (165, H_spec_l05Bytes spec_l05Bytes)] cv1 at_spec_HashEnd (B_spec_HashEnd spec_HasherOk spec_l05Words spec_l05K spec_l05Round spec_l05Bytes) := fun stop s => by cases s <;> kernel_rfl
theorem i_spec_HashEnd : ∀ s s', at_spec_HashEnd s = at_spec_HashEnd s' → s = s' := by
  intro s s' h
  cases s with
  | c0 v0 v1 => cases s' with
    | c0 w0 w1 => obtain ⟨_, _, _⟩ := v0; obtain ⟨_, _, _⟩ := w0; cases h; rfl
    | c1 w0 w1 w2 w3 => exact (region_ne 5 9 h (by kernel_rfl) (by kernel_rfl) rfl).elim
    | c2 w0 w1 w2 w3 w4 w5 => exact (region_ne 5 13 h (by kernel_rfl) (by kernel_rfl) rfl).elim
    | c3 w0 w1 w2 w3 => exact (region_ne 5 20 h (by kernel_rfl) (by kernel_rfl) rfl).elim
  | c1 v0 v1 v2 v3 => cases s' with
    | c0 w0 w1 => exact (region_ne 9 5 h (by kernel_rfl) (by kernel_rfl) rfl).elim
    | c1 w0 w1 w2 w3 => obtain ⟨_, _, _⟩ := v2; obtain ⟨_, _, _⟩ := w2; cases h; rfl
    | c2 w0 w1 w2 w3 w4 w5 => exact (region_ne 9 13 h (by kernel_rfl) (by kernel_rfl) rfl).elim
    | c3 w0 w1 w2 w3 => exact (region_ne 9 20 h (by kernel_rfl) (by kernel_rfl) rfl).elim
  | c2 v0 v1 v2 v3 v4 v5 => cases s' with
    | c0 w0 w1 => exact (region_ne 13 5 h (by kernel_rfl) (by kernel_rfl) rfl).elim
    | c1 w0 w1 w2 w3 => exact (region_ne 13 9 h (by kernel_rfl) (by kernel_rfl) rfl).elim
    | c2 w0 w1 w2 w3 w4 w5 => obtain ⟨_, _, _⟩ := v4; obtain ⟨_, _, _⟩ := w4; cases h; rfl
    | c3 w0 w1 w2 w3 => exact (region_ne 13 20 h (by kernel_rfl) (by kernel_rfl) rfl).elim
  | c3 v0 v1 v2 v3 => cases s' with
    | c0 w0 w1 => exact (region_ne 20 5 h (by kernel_rfl) (by kernel_rfl) rfl).elim
    | c1 w0 w1 w2 w3 => exact (region_ne 20 9 h (by kernel_rfl) (by kernel_rfl) rfl).elim
    | c2 w0 w1 w2 w3 w4 w5 => exact (region_ne 20 13 h (by kernel_rfl) (by kernel_rfl) rfl).elim
    | c3 w0 w1 w2 w3 => cases h; rfl
theorem ok_spec_HashEnd : Tells ctx PP 128 cv7 cv1 (fun a => spec_HashEnd a) := fn_ok (hl_cons h_spec_HasherOk (hl_cons h_spec_l05Words (hl_cons h_spec_l05K (hl_cons h_spec_l05Round (hl_cons h_spec_l05Bytes hl_nil))))) Tryd.func128 i_spec_HashEnd (fun _ => rfl) (fun _ _ => rfl) (b_spec_HashEnd spec_HasherOk spec_l05Words spec_l05K spec_l05Round spec_l05Bytes) (e_spec_HashEnd spec_HasherOk spec_l05Words spec_l05K spec_l05Round spec_l05Bytes) gas
noncomputable def H_spec_HashEnd {γ : Type} (F : SHasher → Option ByteArray) : Hd ctx γ := hdl cv7.dec (fun a => F a) cv1.enc
theorem h_spec_HashEnd {γ : Type} : HdOk (γ := γ) PP 128 (H_spec_HashEnd spec_HashEnd) := hd_ok ok_spec_HashEnd
noncomputable def E_spec_DigestOf (spec_HasherNew : Option SHasher) (spec_HashMore : SHasher → ByteArray → Option SHasher) (spec_HashEnd : SHasher → Option ByteArray) (s_0 : ByteArray) : Option ByteArray :=
  spec_HasherNew.bind fun r0 =>
  (spec_HashMore r0 s_0).bind fun r1 =>
  (spec_HashEnd r1).bind fun r2 =>
  some r2
noncomputable def spec_DigestOf (s_0 : ByteArray) : Option ByteArray := E_spec_DigestOf spec_HasherNew spec_HashMore spec_HashEnd s_0
theorem e_spec_DigestOf (spec_HasherNew : Option SHasher) (spec_HashMore : SHasher → ByteArray → Option SHasher) (spec_HashEnd : SHasher → Option ByteArray) : EntryIs0 ctx PP 78 [] [(130, H_spec_HasherNew spec_HasherNew), (129, H_spec_HashMore spec_HashMore), (128, H_spec_HashEnd spec_HashEnd)] cv1 cv1 (fun a => E_spec_DigestOf spec_HasherNew spec_HashMore spec_HashEnd a) := fun a => by kernel_rfl
theorem ok_spec_DigestOf : Tells ctx PP 78 cv1 cv1 (fun a => spec_DigestOf a) := fn_ok0 (hl_cons h_spec_HasherNew (hl_cons h_spec_HashMore (hl_cons h_spec_HashEnd hl_nil))) Tryd.func78 (e_spec_DigestOf spec_HasherNew spec_HashMore spec_HashEnd)
noncomputable def H_spec_DigestOf {γ : Type} (F : ByteArray → Option ByteArray) : Hd ctx γ := hdl cv1.dec (fun a => F a) cv1.enc
theorem h_spec_DigestOf {γ : Type} : HdOk (γ := γ) PP 78 (H_spec_DigestOf spec_DigestOf) := hd_ok ok_spec_DigestOf
noncomputable def todo_spec_l06Mask_0 : List Go.Item := [.code (cAt (bodyOf Tryd.f175) [1, 1, 1, 0, 1, 0, 0, 0, 0]), .code (cAt (bodyOf Tryd.f175) [1, 1, 1, 0, 1, 0, 0, 0, 1]), .code (cAt (bodyOf Tryd.f175) [1, 1, 1, 0, 1, 0, 0, 1]), .inLoop (cAt (bodyOf Tryd.f175) [1, 1, 1, 0, 1, 0, 0]), .inBlock 0, .code (cAt (bodyOf Tryd.f175) [1, 1, 1, 1])]
inductive St_spec_l06Mask where
  | c0 (key_0 : ByteArray) (x_1 : Int) (i_6 : Int) (out_5 : (List Int))
noncomputable def at_spec_l06Mask : St_spec_l06Mask → LI
  | .c0 key_0 x_1 i_6 out_5 => (todo_spec_l06Mask_0, [(0, [.one (.str key_0)]), (1, [.one (.int .u8 x_1)]), (5, [.one (.own 368)]), (6, [.one (.int .i64 i_6)])], [(368, .sl 5 out_5)])
noncomputable def E_spec_l06Mask (spec_DigestOf : ByteArray → Option ByteArray) (k : St_spec_l06Mask → Option ByteArray) (key_0 : ByteArray) (x_1 : Int) : Option ByteArray :=
  bif (decide ((key_0.size : Int) > 64)) then
    (spec_DigestOf key_0).bind fun r0 =>
    k (.c0 r0 x_1 (0 : Int) (List.replicate (64 : Int).toNat (0 : Int)))
  else
    k (.c0 key_0 x_1 (0 : Int) (List.replicate (64 : Int).toNat (0 : Int)))
noncomputable def B_spec_l06Mask (spec_DigestOf : ByteArray → Option ByteArray) (k : St_spec_l06Mask → Option ByteArray) : St_spec_l06Mask → Option ByteArray
  | .c0 key_0 x_1 i_6 out_5 =>
    bif (decide (i_6 < 64)) then
      bif (decide (i_6 < (key_0.size : Int))) then
        bif ((decide (0 ≤ i_6)) && (decide (i_6 < (key_0.size : Int)))) then
        bif ((decide (0 ≤ i_6)) && (decide (i_6 < (out_5.length : Int)))) then
        bif ((decide (0 ≤ i_6)) && (decide (i_6 < ((out_5.set i_6.toNat (bt key_0 i_6)).length : Int)))) then
        bif ((decide (0 ≤ i_6)) && (decide (i_6 < ((out_5.set i_6.toNat (bt key_0 i_6)).length : Int)))) then
        k (.c0 key_0 x_1 (w64 (i_6 + 1)) ((out_5.set i_6.toNat (bt key_0 i_6)).set i_6.toNat (w8 (((BitVec.toNat ((BitVec.ofInt (IntKind.bits IntKind.u8) ((out_5.set i_6.toNat (bt key_0 i_6)).getD i_6.toNat 0)) ^^^ (BitVec.ofInt (IntKind.bits IntKind.u8) x_1))) : Nat) : Int))))
        else none
        else none
        else none
        else none
      else
        bif ((decide (0 ≤ i_6)) && (decide (i_6 < (out_5.length : Int)))) then
        bif ((decide (0 ≤ i_6)) && (decide (i_6 < (out_5.length : Int)))) then
        k (.c0 key_0 x_1 (w64 (i_6 + 1)) (out_5.set i_6.toNat (w8 (((BitVec.toNat ((BitVec.ofInt (IntKind.bits IntKind.u8) (out_5.getD i_6.toNat 0)) ^^^ (BitVec.ofInt (IntKind.bits IntKind.u8) x_1))) : Nat) : Int))))
        else none
        else none
    else
      some (ofBytes out_5)
noncomputable def L_spec_l06Mask : Nat → St_spec_l06Mask → Option ByteArray
  | 0, _ => none
  | m + 1, s => B_spec_l06Mask spec_DigestOf (L_spec_l06Mask m) s
noncomputable def spec_l06Mask (key_0 : ByteArray) (x_1 : Int) : Option ByteArray := E_spec_l06Mask spec_DigestOf (L_spec_l06Mask gas) key_0 x_1
theorem e_spec_l06Mask (spec_DigestOf : ByteArray → Option ByteArray) : EntryIs ctx PP 175 [] [(78, H_spec_DigestOf spec_DigestOf)] cv14 cv1 at_spec_l06Mask (fun k a => E_spec_l06Mask spec_DigestOf k a.1 a.2) := fun stop a => by kernel_rfl
theorem b_spec_l06Mask (spec_DigestOf : ByteArray → Option ByteArray) : CutIs ctx PP 175 Tryd.f175 [] [(78, H_spec_DigestOf spec_DigestOf)] cv1 at_spec_l06Mask (B_spec_l06Mask spec_DigestOf) := fun stop s => by cases s <;> kernel_rfl
theorem i_spec_l06Mask : ∀ s s', at_spec_l06Mask s = at_spec_l06Mask s' → s = s' := by
  intro s s' h
  cases s with
  | c0 v0 v1 v2 v3 => cases s' with
    | c0 w0 w1 w2 w3 => cases h; rfl
theorem ok_spec_l06Mask : Tells ctx PP 175 cv14 cv1 (fun a => spec_l06Mask a.1 a.2) := fn_ok (hl_cons h_spec_DigestOf hl_nil) Tryd.func175 i_spec_l06Mask (fun _ => rfl) (fun _ _ => rfl) (b_spec_l06Mask spec_DigestOf) (e_spec_l06Mask spec_DigestOf) gas
noncomputable def H_spec_l06Mask {γ : Type} (F : ByteArray → Int → Option ByteArray) : Hd ctx γ := hdl cv14.dec (fun a => F a.1 a.2) cv1.enc
theorem h_spec_l06Mask {γ : Type} : HdOk (γ := γ) PP 175 (H_spec_l06Mask spec_l06Mask) := hd_ok ok_spec_l06Mask
noncomputable def E_spec_MacOf (spec_l06Mask : ByteArray → Int → Option ByteArray) (spec_DigestOf : ByteArray → Option ByteArray) (key_0 : ByteArray) (s_1 : ByteArray) : Option ByteArray :=
  (spec_l06Mask key_0 (92 : Int)).bind fun r0 =>
  (spec_l06Mask key_0 (54 : Int)).bind fun r1 =>
  bif (decide ((r1.size + s_1.size) ≤ 9223372036854775807)) then
  (spec_DigestOf (r1 ++ s_1)).bind fun r2 =>
  bif (decide ((r0.size + r2.size) ≤ 9223372036854775807)) then
  (spec_DigestOf (r0 ++ r2)).bind fun r3 =>
  some r3
  else none
  else none
noncomputable def spec_MacOf (key_0 : ByteArray) (s_1 : ByteArray) : Option ByteArray := E_spec_MacOf spec_l06Mask spec_DigestOf key_0 s_1
theorem e_spec_MacOf (spec_l06Mask : ByteArray → Int → Option ByteArray) (spec_DigestOf : ByteArray → Option ByteArray) : EntryIs0 ctx PP 151 [] [(175, H_spec_l06Mask spec_l06Mask), (78, H_spec_DigestOf spec_DigestOf)] cv15 cv1 (fun a => E_spec_MacOf spec_l06Mask spec_DigestOf a.1 a.2) := fun a => by kernel_rfl
theorem ok_spec_MacOf : Tells ctx PP 151 cv15 cv1 (fun a => spec_MacOf a.1 a.2) := fn_ok0 (hl_cons h_spec_l06Mask (hl_cons h_spec_DigestOf hl_nil)) Tryd.func151 (e_spec_MacOf spec_l06Mask spec_DigestOf)
noncomputable def H_spec_MacOf {γ : Type} (F : ByteArray → ByteArray → Option ByteArray) : Hd ctx γ := hdl cv15.dec (fun a => F a.1 a.2) cv1.enc
theorem h_spec_MacOf {γ : Type} : HdOk (γ := γ) PP 151 (H_spec_MacOf spec_MacOf) := hd_ok ok_spec_MacOf
noncomputable def todo_spec_Mask_0 : List Go.Item := [.code (cAt (bodyOf Tryd.f108) [1, 1, 1, 0, 1, 0, 0, 0, 0]), .code (cAt (bodyOf Tryd.f108) [1, 1, 1, 0, 1, 0, 0, 0, 1]), .code (cAt (bodyOf Tryd.f108) [1, 1, 1, 0, 1, 0, 0, 1]), .inLoop (cAt (bodyOf Tryd.f108) [1, 1, 1, 0, 1, 0, 0]), .inBlock 0, .code (cAt (bodyOf Tryd.f108) [1, 1, 1, 1])]
inductive St_spec_Mask where
  | c0 (key_0 : ByteArray) (num_1 : Int) (n_2 : Int) (i_9 : Int) (out_8 : (List Int))
noncomputable def at_spec_Mask : St_spec_Mask → LI
  | .c0 key_0 num_1 n_2 i_9 out_8 => (todo_spec_Mask_0, [(0, [.one (.str key_0)]), (1, [.one (.int .i64 num_1)]), (2, [.one (.int .i64 n_2)]), (8, [.one (.own 560)]), (9, [.one (.int .i64 i_9)])], [(560, .sl 5 out_8)])
noncomputable def E_spec_Mask (spec_l01In : Int → Int → Int → Option Bool) (spec_l01Var : Int → Option ByteArray) (spec_l06Byte : Int → Option ByteArray) (spec_MacOf : ByteArray → ByteArray → Option ByteArray) (k : St_spec_Mask → Option (ByteArray × Bool)) (key_0 : ByteArray) (num_1 : Int) (n_2 : Int) : Option (ByteArray × Bool) :=
  (spec_l01In num_1 (0 : Int) (1000000000 : Int)).bind fun r0 =>
  bif (!r0) then
    some ((⟨#[]⟩ : ByteArray), false)
  else
    (spec_l01In n_2 (0 : Int) (8000 : Int)).bind fun r1 =>
    bif (!r1) then
      some ((⟨#[]⟩ : ByteArray), false)
    else
      k (.c0 key_0 num_1 n_2 (0 : Int) [])
noncomputable def B_spec_Mask (spec_l01In : Int → Int → Int → Option Bool) (spec_l01Var : Int → Option ByteArray) (spec_l06Byte : Int → Option ByteArray) (spec_MacOf : ByteArray → ByteArray → Option ByteArray) (k : St_spec_Mask → Option (ByteArray × Bool)) : St_spec_Mask → Option (ByteArray × Bool)
  | .c0 key_0 num_1 n_2 i_9 out_8 =>
    bif (decide ((out_8.length : Int) < n_2)) then
      (spec_l01Var num_1).bind fun r0 =>
      bif (decide (((⟨#[109]⟩ : ByteArray).size + r0.size) ≤ 9223372036854775807)) then
      (spec_l06Byte i_9).bind fun r1 =>
      bif (decide ((((⟨#[109]⟩ : ByteArray) ++ r0).size + r1.size) ≤ 9223372036854775807)) then
      (spec_MacOf key_0 (((⟨#[109]⟩ : ByteArray) ++ r0) ++ r1)).bind fun r2 =>
      bif (decide (r2.size ≤ 9223372036854775807)) then
      bif (decide (((out_8.length + (bytesOf r2).length) * 1) ≤ 140737488355328)) then
      k (.c0 key_0 num_1 n_2 (w64 (i_9 + 1)) (out_8 ++ (bytesOf r2)))
      else none
      else none
      else none
      else none
    else
      bif ((decide (0 ≤ n_2)) && (decide (n_2 ≤ (out_8.length : Int)))) then
      some ((ofBytes ((out_8.drop 0).take (n_2.toNat - 0))), true)
      else none
noncomputable def L_spec_Mask : Nat → St_spec_Mask → Option (ByteArray × Bool)
  | 0, _ => none
  | m + 1, s => B_spec_Mask spec_l01In spec_l01Var spec_l06Byte spec_MacOf (L_spec_Mask m) s
noncomputable def spec_Mask (key_0 : ByteArray) (num_1 : Int) (n_2 : Int) : Option (ByteArray × Bool) := E_spec_Mask spec_l01In spec_l01Var spec_l06Byte spec_MacOf (L_spec_Mask gas) key_0 num_1 n_2
theorem e_spec_Mask (spec_l01In : Int → Int → Int → Option Bool) (spec_l01Var : Int → Option ByteArray) (spec_l06Byte : Int → Option ByteArray) (spec_MacOf : ByteArray → ByteArray → Option ByteArray) : EntryIs ctx PP 108 [] [(60, H_spec_l01In spec_l01In), (50, H_spec_l01Var spec_l01Var), (152, H_spec_l06Byte spec_l06Byte), (151, H_spec_MacOf spec_MacOf)] cv16 cv17 at_spec_Mask (fun k a => E_spec_Mask spec_l01In spec_l01Var spec_l06Byte spec_MacOf k a.1 a.2.1 a.2.2) := fun stop a => by kernel_rfl
theorem b_spec_Mask (spec_l01In : Int → Int → Int → Option Bool) (spec_l01Var : Int → Option ByteArray) (spec_l06Byte : Int → Option ByteArray) (spec_MacOf : ByteArray → ByteArray → Option ByteArray) : CutIs ctx PP 108 Tryd.f108 [] [(60, H_spec_l01In spec_l01In), (50, H_spec_l01Var spec_l01Var), (152, H_spec_l06Byte spec_l06Byte), (151, H_spec_MacOf spec_MacOf)] cv17 at_spec_Mask (B_spec_Mask spec_l01In spec_l01Var spec_l06Byte spec_MacOf) := fun stop s => by cases s <;> kernel_rfl
theorem i_spec_Mask : ∀ s s', at_spec_Mask s = at_spec_Mask s' → s = s' := by
  intro s s' h
  cases s with
  | c0 v0 v1 v2 v3 v4 => cases s' with
    | c0 w0 w1 w2 w3 w4 => cases h; rfl
theorem ok_spec_Mask : Tells ctx PP 108 cv16 cv17 (fun a => spec_Mask a.1 a.2.1 a.2.2) := fn_ok (hl_cons h_spec_l01In (hl_cons h_spec_l01Var (hl_cons h_spec_l06Byte (hl_cons h_spec_MacOf hl_nil)))) Tryd.func108 i_spec_Mask (fun _ => rfl) (fun _ _ => rfl) (b_spec_Mask spec_l01In spec_l01Var spec_l06Byte spec_MacOf) (e_spec_Mask spec_l01In spec_l01Var spec_l06Byte spec_MacOf) gas
noncomputable def H_spec_Mask {γ : Type} (F : ByteArray → Int → Int → Option (ByteArray × Bool)) : Hd ctx γ := hdl cv16.dec (fun a => F a.1 a.2.1 a.2.2) cv17.enc
theorem h_spec_Mask {γ : Type} : HdOk (γ := γ) PP 108 (H_spec_Mask spec_Mask) := hd_ok ok_spec_Mask
noncomputable def E_spec_l18Tag (spec_l01Var : Int → Option ByteArray) (spec_MacOf : ByteArray → ByteArray → Option ByteArray) (key_0 : ByteArray) (num_1 : Int) (s_2 : ByteArray) : Option ByteArray :=
  (spec_l01Var num_1).bind fun r0 =>
  bif (decide (((⟨#[116]⟩ : ByteArray).size + r0.size) ≤ 9223372036854775807)) then
  bif (decide ((((⟨#[116]⟩ : ByteArray) ++ r0).size + s_2.size) ≤ 9223372036854775807)) then
  (spec_MacOf key_0 (((⟨#[116]⟩ : ByteArray) ++ r0) ++ s_2)).bind fun r1 =>
  bif ((decide ((0 : Int) ≤ (16 : Int))) && (decide (16 ≤ (r1.size : Int)))) then
  some (r1.extract 0 (16 : Int).toNat)
  else none
  else none
  else none
noncomputable def spec_l18Tag (key_0 : ByteArray) (num_1 : Int) (s_2 : ByteArray) : Option ByteArray := E_spec_l18Tag spec_l01Var spec_MacOf key_0 num_1 s_2
theorem e_spec_l18Tag (spec_l01Var : Int → Option ByteArray) (spec_MacOf : ByteArray → ByteArray → Option ByteArray) : EntryIs0 ctx PP 110 [] [(50, H_spec_l01Var spec_l01Var), (151, H_spec_MacOf spec_MacOf)] cv18 cv1 (fun a => E_spec_l18Tag spec_l01Var spec_MacOf a.1 a.2.1 a.2.2) := fun a => by kernel_rfl
theorem ok_spec_l18Tag : Tells ctx PP 110 cv18 cv1 (fun a => spec_l18Tag a.1 a.2.1 a.2.2) := fn_ok0 (hl_cons h_spec_l01Var (hl_cons h_spec_MacOf hl_nil)) Tryd.func110 (e_spec_l18Tag spec_l01Var spec_MacOf)
noncomputable def H_spec_l18Tag {γ : Type} (F : ByteArray → Int → ByteArray → Option ByteArray) : Hd ctx γ := hdl cv18.dec (fun a => F a.1 a.2.1 a.2.2) cv1.enc
theorem h_spec_l18Tag {γ : Type} : HdOk (γ := γ) PP 110 (H_spec_l18Tag spec_l18Tag) := hd_ok ok_spec_l18Tag
noncomputable def E_spec_SameMac  (a_0 : ByteArray) (b_1 : ByteArray) : Option Bool :=
  some ((ByteArray.toList a_0) == (ByteArray.toList b_1))
noncomputable def spec_SameMac (a_0 : ByteArray) (b_1 : ByteArray) : Option Bool := E_spec_SameMac  a_0 b_1
theorem e_spec_SameMac  : EntryIs0 ctx PP 116 [] [] cv15 cv3 (fun a => E_spec_SameMac  a.1 a.2) := fun a => by kernel_rfl
theorem ok_spec_SameMac : Tells ctx PP 116 cv15 cv3 (fun a => spec_SameMac a.1 a.2) := fn_ok0 hl_nil Tryd.func116 (e_spec_SameMac )
noncomputable def H_spec_SameMac {γ : Type} (F : ByteArray → ByteArray → Option Bool) : Hd ctx γ := hdl cv15.dec (fun a => F a.1 a.2) cv3.enc
theorem h_spec_SameMac {γ : Type} : HdOk (γ := γ) PP 116 (H_spec_SameMac spec_SameMac) := hd_ok ok_spec_SameMac
noncomputable def todo_spec_l18Xor_0 : List Go.Item := [.code (cAt (bodyOf Tryd.f109) [1, 1, 0, 1, 0, 0, 0, 0]), .code (cAt (bodyOf Tryd.f109) [1, 1, 0, 1, 0, 0, 0, 1]), .code (cAt (bodyOf Tryd.f109) [1, 1, 0, 1, 0, 0, 1]), .inLoop (cAt (bodyOf Tryd.f109) [1, 1, 0, 1, 0, 0]), .inBlock 0, .code (cAt (bodyOf Tryd.f109) [1, 1, 1])]
inductive St_spec_l18Xor where
  | c0 (b_1 : ByteArray) (i_6 : Int) (out_5 : (List Int))
noncomputable def at_spec_l18Xor : St_spec_l18Xor → LI
  | .c0 b_1 i_6 out_5 => (todo_spec_l18Xor_0, [(1, [.one (.str b_1)]), (5, [.one (.own 368)]), (6, [.one (.int .i64 i_6)])], [(368, .sl 5 out_5)])
noncomputable def E_spec_l18Xor  (k : St_spec_l18Xor → Option ByteArray) (a_0 : ByteArray) (b_1 : ByteArray) : Option ByteArray :=
  bif (decide (a_0.size ≤ 9223372036854775807)) then
  k (.c0 b_1 (0 : Int) (bytesOf a_0))
  else none
noncomputable def B_spec_l18Xor  (k : St_spec_l18Xor → Option ByteArray) : St_spec_l18Xor → Option ByteArray
  | .c0 b_1 i_6 out_5 =>
    bif (decide (i_6 < (out_5.length : Int))) then
      bif ((decide (0 ≤ i_6)) && (decide (i_6 < (out_5.length : Int)))) then
      bif ((decide (0 ≤ i_6)) && (decide (i_6 < (b_1.size : Int)))) then
      bif ((decide (0 ≤ i_6)) && (decide (i_6 < (out_5.length : Int)))) then
      k (.c0 b_1 (w64 (i_6 + 1)) (out_5.set i_6.toNat (w8 (((BitVec.toNat ((BitVec.ofInt (IntKind.bits IntKind.u8) (out_5.getD i_6.toNat 0)) ^^^ (BitVec.ofInt (IntKind.bits IntKind.u8) (bt b_1 i_6)))) : Nat) : Int))))
      else none
      else none
      else none
    else
      some (ofBytes out_5)
noncomputable def L_spec_l18Xor : Nat → St_spec_l18Xor → Option ByteArray
  | 0, _ => none
  | m + 1, s => B_spec_l18Xor  (L_spec_l18Xor m) s
noncomputable def spec_l18Xor (a_0 : ByteArray) (b_1 : ByteArray) : Option ByteArray := E_spec_l18Xor  (L_spec_l18Xor gas) a_0 b_1
theorem e_spec_l18Xor  : EntryIs ctx PP 109 [] [] cv15 cv1 at_spec_l18Xor (fun k a => E_spec_l18Xor  k a.1 a.2) := fun stop a => by kernel_rfl
theorem b_spec_l18Xor  : CutIs ctx PP 109 Tryd.f109 [] [] cv1 at_spec_l18Xor (B_spec_l18Xor ) := fun stop s => by cases s <;> kernel_rfl
theorem i_spec_l18Xor : ∀ s s', at_spec_l18Xor s = at_spec_l18Xor s' → s = s' := by
  intro s s' h
  cases s with
  | c0 v0 v1 v2 => cases s' with
    | c0 w0 w1 w2 => cases h; rfl
theorem ok_spec_l18Xor : Tells ctx PP 109 cv15 cv1 (fun a => spec_l18Xor a.1 a.2) := fn_ok hl_nil Tryd.func109 i_spec_l18Xor (fun _ => rfl) (fun _ _ => rfl) (b_spec_l18Xor ) (e_spec_l18Xor ) gas
noncomputable def H_spec_l18Xor {γ : Type} (F : ByteArray → ByteArray → Option ByteArray) : Hd ctx γ := hdl cv15.dec (fun a => F a.1 a.2) cv1.enc
theorem h_spec_l18Xor {γ : Type} : HdOk (γ := γ) PP 109 (H_spec_l18Xor spec_l18Xor) := hd_ok ok_spec_l18Xor
noncomputable def E_spec_OpenText (spec_Mask : ByteArray → Int → Int → Option (ByteArray × Bool)) (spec_l18Tag : ByteArray → Int → ByteArray → Option ByteArray) (spec_SameMac : ByteArray → ByteArray → Option Bool) (spec_l18Xor : ByteArray → ByteArray → Option ByteArray) (key_0 : ByteArray) (num_1 : Int) (text_2 : ByteArray) : Option (ByteArray × Bool) :=
  bif (decide ((text_2.size : Int) < 16)) then
    some ((⟨#[]⟩ : ByteArray), false)
  else
    bif ((decide (0 ≤ (w64 ((text_2.size : Int) - 16)))) && (decide ((w64 ((text_2.size : Int) - 16)) ≤ (text_2.size : Int)))) then
    (spec_Mask key_0 num_1 ((text_2.extract 0 (w64 ((text_2.size : Int) - 16)).toNat).size : Int)).bind fun r0 =>
    bif (!r0.2) then
      some ((⟨#[]⟩ : ByteArray), false)
    else
      (spec_l18Tag key_0 num_1 (text_2.extract 0 (w64 ((text_2.size : Int) - 16)).toNat)).bind fun r1 =>
      bif ((decide (0 ≤ ((text_2.extract 0 (w64 ((text_2.size : Int) - 16)).toNat).size : Int))) && (decide (((text_2.extract 0 (w64 ((text_2.size : Int) - 16)).toNat).size : Int) ≤ (text_2.size : Int)))) then
      (spec_SameMac r1 (text_2.extract ((text_2.extract 0 (w64 ((text_2.size : Int) - 16)).toNat).size : Int).toNat text_2.size)).bind fun r2 =>
      bif (!r2) then
        some ((⟨#[]⟩ : ByteArray), false)
      else
        (spec_l18Xor (text_2.extract 0 (w64 ((text_2.size : Int) - 16)).toNat) r0.1).bind fun r3 =>
        some (r3, true)
      else none
    else none
noncomputable def spec_OpenText (key_0 : ByteArray) (num_1 : Int) (text_2 : ByteArray) : Option (ByteArray × Bool) := E_spec_OpenText spec_Mask spec_l18Tag spec_SameMac spec_l18Xor key_0 num_1 text_2
theorem e_spec_OpenText (spec_Mask : ByteArray → Int → Int → Option (ByteArray × Bool)) (spec_l18Tag : ByteArray → Int → ByteArray → Option ByteArray) (spec_SameMac : ByteArray → ByteArray → Option Bool) (spec_l18Xor : ByteArray → ByteArray → Option ByteArray) : EntryIs0 ctx PP 54 [] [(108, H_spec_Mask spec_Mask), (110, H_spec_l18Tag spec_l18Tag), (116, H_spec_SameMac spec_SameMac), (109, H_spec_l18Xor spec_l18Xor)] cv18 cv17 (fun a => E_spec_OpenText spec_Mask spec_l18Tag spec_SameMac spec_l18Xor a.1 a.2.1 a.2.2) := fun a => by kernel_rfl
theorem ok_spec_OpenText : Tells ctx PP 54 cv18 cv17 (fun a => spec_OpenText a.1 a.2.1 a.2.2) := fn_ok0 (hl_cons h_spec_Mask (hl_cons h_spec_l18Tag (hl_cons h_spec_SameMac (hl_cons h_spec_l18Xor hl_nil)))) Tryd.func54 (e_spec_OpenText spec_Mask spec_l18Tag spec_SameMac spec_l18Xor)
noncomputable def H_spec_OpenText {γ : Type} (F : ByteArray → Int → ByteArray → Option (ByteArray × Bool)) : Hd ctx γ := hdl cv18.dec (fun a => F a.1 a.2.1 a.2.2) cv17.enc
theorem h_spec_OpenText {γ : Type} : HdOk (γ := γ) PP 54 (H_spec_OpenText spec_OpenText) := hd_ok ok_spec_OpenText
noncomputable def E_spec_l19Take  (c_0 : SL19Cur) (n_1 : Int) : Option (ByteArray × SL19Cur) :=
  bif c_0.fBad then
    some ((⟨#[]⟩ : ByteArray), (⟨c_0.fText, c_0.fAt, true⟩ : SL19Cur))
  else
    bif (decide (n_1 > (w64 ((c_0.fText.size : Int) - c_0.fAt)))) then
      some ((⟨#[]⟩ : ByteArray), (⟨c_0.fText, c_0.fAt, true⟩ : SL19Cur))
    else
      bif (((decide (0 ≤ (w64 ((w64 (c_0.fAt + n_1)) - n_1)))) && (decide ((w64 ((w64 (c_0.fAt + n_1)) - n_1)) ≤ (w64 (c_0.fAt + n_1))))) && (decide ((w64 (c_0.fAt + n_1)) ≤ (c_0.fText.size : Int)))) then
      some ((c_0.fText.extract (w64 ((w64 (c_0.fAt + n_1)) - n_1)).toNat (w64 (c_0.fAt + n_1)).toNat), (⟨c_0.fText, (w64 (c_0.fAt + n_1)), c_0.fBad⟩ : SL19Cur))
      else none
noncomputable def spec_l19Take (c_0 : SL19Cur) (n_1 : Int) : Option (ByteArray × SL19Cur) := E_spec_l19Take  c_0 n_1
theorem e_spec_l19Take  : EntryIs0 ctx PP 147 [0] [] cv115 cv116 (fun a => E_spec_l19Take  a.1 a.2) := fun a => by kernel_rfl
theorem ok_spec_l19Take : Tells ctx PP 147 cv115 cv116 (fun a => spec_l19Take a.1 a.2) := fn_ok0 hl_nil Tryd.func147 (e_spec_l19Take )
noncomputable def H_spec_l19Take {γ : Type} (F : SL19Cur → Int → Option (ByteArray × SL19Cur)) : Hd ctx γ := hdl cv115.dec (fun a => F a.1 a.2) cv116.enc
theorem h_spec_l19Take {γ : Type} : HdOk (γ := γ) PP 147 (H_spec_l19Take spec_l19Take) := hd_ok ok_spec_l19Take
noncomputable def E_spec_l19One (spec_l19Take : SL19Cur → Int → Option (ByteArray × SL19Cur)) (c_0 : SL19Cur) : Option (Int × SL19Cur) :=
  (spec_l19Take c_0 (1 : Int)).bind fun r0 =>
  bif r0.2.fBad then
    some ((0 : Int), r0.2)
  else
    bif ((decide ((0 : Int) ≤ (0 : Int))) && (decide (0 < (r0.1.size : Int)))) then
    some ((w64 (bt r0.1 (0 : Int))), r0.2)
    else none
noncomputable def spec_l19One (c_0 : SL19Cur) : Option (Int × SL19Cur) := E_spec_l19One spec_l19Take c_0
theorem e_spec_l19One (spec_l19Take : SL19Cur → Int → Option (ByteArray × SL19Cur)) : EntryIs0 ctx PP 146 [0] [(147, H_spec_l19Take spec_l19Take)] cv117 cv118 (fun a => E_spec_l19One spec_l19Take a) := fun a => by kernel_rfl
theorem ok_spec_l19One : Tells ctx PP 146 cv117 cv118 (fun a => spec_l19One a) := fn_ok0 (hl_cons h_spec_l19Take hl_nil) Tryd.func146 (e_spec_l19One spec_l19Take)
noncomputable def H_spec_l19One {γ : Type} (F : SL19Cur → Option (Int × SL19Cur)) : Hd ctx γ := hdl cv117.dec (fun a => F a) cv118.enc
theorem h_spec_l19One {γ : Type} : HdOk (γ := γ) PP 146 (H_spec_l19One spec_l19One) := hd_ok ok_spec_l19One
noncomputable def E_spec_l19Var (spec_ReadVar : ByteArray → Int → Option (Int × Int × Bool)) (c_0 : SL19Cur) : Option (Int × SL19Cur) :=
  (spec_ReadVar c_0.fText c_0.fAt).bind fun r0 =>
  bif c_0.fBad then
    some ((0 : Int), (⟨c_0.fText, c_0.fAt, true⟩ : SL19Cur))
  else
    bif (!r0.2.2) then
      some ((0 : Int), (⟨c_0.fText, c_0.fAt, true⟩ : SL19Cur))
    else
      some (r0.1, (⟨c_0.fText, r0.2.1, c_0.fBad⟩ : SL19Cur))
noncomputable def spec_l19Var (c_0 : SL19Cur) : Option (Int × SL19Cur) := E_spec_l19Var spec_ReadVar c_0
theorem e_spec_l19Var (spec_ReadVar : ByteArray → Int → Option (Int × Int × Bool)) : EntryIs0 ctx PP 148 [0] [(55, H_spec_ReadVar spec_ReadVar)] cv117 cv118 (fun a => E_spec_l19Var spec_ReadVar a) := fun a => by kernel_rfl
theorem ok_spec_l19Var : Tells ctx PP 148 cv117 cv118 (fun a => spec_l19Var a) := fn_ok0 (hl_cons h_spec_ReadVar hl_nil) Tryd.func148 (e_spec_l19Var spec_ReadVar)
noncomputable def H_spec_l19Var {γ : Type} (F : SL19Cur → Option (Int × SL19Cur)) : Hd ctx γ := hdl cv117.dec (fun a => F a) cv118.enc
theorem h_spec_l19Var {γ : Type} : HdOk (γ := γ) PP 148 (H_spec_l19Var spec_l19Var) := hd_ok ok_spec_l19Var
noncomputable def E_spec_l19ReadShort (spec_l19Var : SL19Cur → Option (Int × SL19Cur)) (spec_l19Take : SL19Cur → Int → Option (ByteArray × SL19Cur)) (c_0 : SL19Cur) : Option (ByteArray × SL19Cur) :=
  (spec_l19Var c_0).bind fun r0 =>
  (spec_l19Take r0.2 r0.1).bind fun r1 =>
  some (r1.1, r1.2)
noncomputable def spec_l19ReadShort (c_0 : SL19Cur) : Option (ByteArray × SL19Cur) := E_spec_l19ReadShort spec_l19Var spec_l19Take c_0
theorem e_spec_l19ReadShort (spec_l19Var : SL19Cur → Option (Int × SL19Cur)) (spec_l19Take : SL19Cur → Int → Option (ByteArray × SL19Cur)) : EntryIs0 ctx PP 172 [0] [(148, H_spec_l19Var spec_l19Var), (147, H_spec_l19Take spec_l19Take)] cv117 cv116 (fun a => E_spec_l19ReadShort spec_l19Var spec_l19Take a) := fun a => by kernel_rfl
theorem ok_spec_l19ReadShort : Tells ctx PP 172 cv117 cv116 (fun a => spec_l19ReadShort a) := fn_ok0 (hl_cons h_spec_l19Var (hl_cons h_spec_l19Take hl_nil)) Tryd.func172 (e_spec_l19ReadShort spec_l19Var spec_l19Take)
noncomputable def H_spec_l19ReadShort {γ : Type} (F : SL19Cur → Option (ByteArray × SL19Cur)) : Hd ctx γ := hdl cv117.dec (fun a => F a) cv116.enc
theorem h_spec_l19ReadShort {γ : Type} : HdOk (γ := γ) PP 172 (H_spec_l19ReadShort spec_l19ReadShort) := hd_ok ok_spec_l19ReadShort
noncomputable def E_spec_ThingOk (spec_l01In : Int → Int → Int → Option Bool) (x_0 : SThing) : Option Bool :=
  (spec_l01In x_0.fId (1 : Int) (1000 : Int)).bind fun r0 =>
  bif (!r0) then
    some false
  else
    (spec_l01In x_0.fKind (1 : Int) (3 : Int)).bind fun r1 =>
    bif (!r1) then
      some false
    else
      (spec_l01In x_0.fNext (0 : Int) (16 : Int)).bind fun r2 =>
      bif (!r2) then
        some false
      else
        bif (x_0.fKind != 2) then
          bif (x_0.fNext != 0) then
            some false
          else
            bif x_0.fSigns then
              some false
            else
              bif (x_0.fKind != 1) then
                bif x_0.fWraps then
                  some false
                else
                  bif (x_0.fKind == 3) then
                    some (decide ((x_0.fValue.size : Int) ≤ 100))
                  else
                    some ((x_0.fValue.size : Int) == 32)
              else
                bif (x_0.fKind == 3) then
                  some (decide ((x_0.fValue.size : Int) ≤ 100))
                else
                  some ((x_0.fValue.size : Int) == 32)
        else
          bif (x_0.fKind != 1) then
            bif x_0.fWraps then
              some false
            else
              bif (x_0.fKind == 3) then
                some (decide ((x_0.fValue.size : Int) ≤ 100))
              else
                some ((x_0.fValue.size : Int) == 32)
          else
            bif (x_0.fKind == 3) then
              some (decide ((x_0.fValue.size : Int) ≤ 100))
            else
              some ((x_0.fValue.size : Int) == 32)
noncomputable def spec_ThingOk (x_0 : SThing) : Option Bool := E_spec_ThingOk spec_l01In x_0
theorem e_spec_ThingOk (spec_l01In : Int → Int → Int → Option Bool) : EntryIs0 ctx PP 127 [] [(60, H_spec_l01In spec_l01In)] cv26 cv3 (fun a => E_spec_ThingOk spec_l01In a) := fun a => by kernel_rfl
theorem ok_spec_ThingOk : Tells ctx PP 127 cv26 cv3 (fun a => spec_ThingOk a) := fn_ok0 (hl_cons h_spec_l01In hl_nil) Tryd.func127 (e_spec_ThingOk spec_l01In)
noncomputable def H_spec_ThingOk {γ : Type} (F : SThing → Option Bool) : Hd ctx γ := hdl cv26.dec (fun a => F a) cv3.enc
theorem h_spec_ThingOk {γ : Type} : HdOk (γ := γ) PP 127 (H_spec_ThingOk spec_ThingOk) := hd_ok ok_spec_ThingOk
noncomputable def E_spec_l19Flag  (x_0 : Bool) (n_1 : Int) : Option Int :=
  bif x_0 then
    some n_1
  else
    some (0 : Int)
noncomputable def spec_l19Flag (x_0 : Bool) (n_1 : Int) : Option Int := E_spec_l19Flag  x_0 n_1
theorem e_spec_l19Flag  : EntryIs0 ctx PP 155 [] [] cv28 cv0 (fun a => E_spec_l19Flag  a.1 a.2) := fun a => by kernel_rfl
theorem ok_spec_l19Flag : Tells ctx PP 155 cv28 cv0 (fun a => spec_l19Flag a.1 a.2) := fn_ok0 hl_nil Tryd.func155 (e_spec_l19Flag )
noncomputable def H_spec_l19Flag {γ : Type} (F : Bool → Int → Option Int) : Hd ctx γ := hdl cv28.dec (fun a => F a.1 a.2) cv0.enc
theorem h_spec_l19Flag {γ : Type} : HdOk (γ := γ) PP 155 (H_spec_l19Flag spec_l19Flag) := hd_ok ok_spec_l19Flag
noncomputable def E_spec_l19Short (spec_l01Var : Int → Option ByteArray) (s_0 : ByteArray) : Option ByteArray :=
  (spec_l01Var (s_0.size : Int)).bind fun r0 =>
  bif (decide ((r0.size + s_0.size) ≤ 9223372036854775807)) then
  some (r0 ++ s_0)
  else none
noncomputable def spec_l19Short (s_0 : ByteArray) : Option ByteArray := E_spec_l19Short spec_l01Var s_0
theorem e_spec_l19Short (spec_l01Var : Int → Option ByteArray) : EntryIs0 ctx PP 156 [] [(50, H_spec_l01Var spec_l01Var)] cv1 cv1 (fun a => E_spec_l19Short spec_l01Var a) := fun a => by kernel_rfl
theorem ok_spec_l19Short : Tells ctx PP 156 cv1 cv1 (fun a => spec_l19Short a) := fn_ok0 (hl_cons h_spec_l01Var hl_nil) Tryd.func156 (e_spec_l19Short spec_l01Var)
noncomputable def H_spec_l19Short {γ : Type} (F : ByteArray → Option ByteArray) : Hd ctx γ := hdl cv1.dec (fun a => F a) cv1.enc
theorem h_spec_l19Short {γ : Type} : HdOk (γ := γ) PP 156 (H_spec_l19Short spec_l19Short) := hd_ok ok_spec_l19Short
noncomputable def E_spec_ThingText (spec_ThingOk : SThing → Option Bool) (spec_l19Flag : Bool → Int → Option Int) (spec_l01Var : Int → Option ByteArray) (spec_l06Byte : Int → Option ByteArray) (spec_l19Short : ByteArray → Option ByteArray) (x_0 : SThing) : Option (ByteArray × Bool) :=
  (spec_ThingOk x_0).bind fun r0 =>
  bif (!r0) then
    some ((⟨#[]⟩ : ByteArray), false)
  else
    (spec_l19Flag x_0.fHidden (1 : Int)).bind fun r1 =>
    (spec_l19Flag x_0.fFixed (2 : Int)).bind fun r2 =>
    (spec_l19Flag x_0.fSigns (4 : Int)).bind fun r3 =>
    (spec_l19Flag x_0.fWraps (8 : Int)).bind fun r4 =>
    (spec_l01Var x_0.fId).bind fun r5 =>
    (spec_l06Byte x_0.fKind).bind fun r6 =>
    bif (decide ((r5.size + r6.size) ≤ 9223372036854775807)) then
    (spec_l06Byte (w64 ((w64 ((w64 (r1 + r2)) + r3)) + r4))).bind fun r7 =>
    bif (decide (((r5 ++ r6).size + r7.size) ≤ 9223372036854775807)) then
    (spec_l19Short x_0.fValue).bind fun r8 =>
    bif (decide ((((r5 ++ r6) ++ r7).size + r8.size) ≤ 9223372036854775807)) then
    (spec_l01Var x_0.fNext).bind fun r9 =>
    bif (decide (((((r5 ++ r6) ++ r7) ++ r8).size + r9.size) ≤ 9223372036854775807)) then
    some (((((r5 ++ r6) ++ r7) ++ r8) ++ r9), true)
    else none
    else none
    else none
    else none
noncomputable def spec_ThingText (x_0 : SThing) : Option (ByteArray × Bool) := E_spec_ThingText spec_ThingOk spec_l19Flag spec_l01Var spec_l06Byte spec_l19Short x_0
theorem e_spec_ThingText (spec_ThingOk : SThing → Option Bool) (spec_l19Flag : Bool → Int → Option Int) (spec_l01Var : Int → Option ByteArray) (spec_l06Byte : Int → Option ByteArray) (spec_l19Short : ByteArray → Option ByteArray) : EntryIs0 ctx PP 118 [] [(127, H_spec_ThingOk spec_ThingOk), (155, H_spec_l19Flag spec_l19Flag), (50, H_spec_l01Var spec_l01Var), (152, H_spec_l06Byte spec_l06Byte), (156, H_spec_l19Short spec_l19Short)] cv26 cv17 (fun a => E_spec_ThingText spec_ThingOk spec_l19Flag spec_l01Var spec_l06Byte spec_l19Short a) := fun a => by kernel_rfl
theorem ok_spec_ThingText : Tells ctx PP 118 cv26 cv17 (fun a => spec_ThingText a) := fn_ok0 (hl_cons h_spec_ThingOk (hl_cons h_spec_l19Flag (hl_cons h_spec_l01Var (hl_cons h_spec_l06Byte (hl_cons h_spec_l19Short hl_nil))))) Tryd.func118 (e_spec_ThingText spec_ThingOk spec_l19Flag spec_l01Var spec_l06Byte spec_l19Short)
noncomputable def H_spec_ThingText {γ : Type} (F : SThing → Option (ByteArray × Bool)) : Hd ctx γ := hdl cv26.dec (fun a => F a) cv17.enc
theorem h_spec_ThingText {γ : Type} : HdOk (γ := γ) PP 118 (H_spec_ThingText spec_ThingText) := hd_ok ok_spec_ThingText
noncomputable def E_spec_ReadThing (spec_l19Var : SL19Cur → Option (Int × SL19Cur)) (spec_l19One : SL19Cur → Option (Int × SL19Cur)) (spec_l19ReadShort : SL19Cur → Option (ByteArray × SL19Cur)) (spec_ThingText : SThing → Option (ByteArray × Bool)) (text_0 : ByteArray) : Option (SThing × Bool) :=
  (spec_l19Var (⟨text_0, (0 : Int), false⟩ : SL19Cur)).bind fun r0 =>
  (spec_l19One r0.2).bind fun r1 =>
  (spec_l19One r1.2).bind fun r2 =>
  (spec_l19ReadShort r2.2).bind fun r3 =>
  (spec_l19Var r3.2).bind fun r4 =>
  (spec_ThingText (⟨r0.1, r1.1, ((r2.1.tmod 2) == 1), (((w64 (r2.1.tdiv 2)).tmod 2) == 1), (((w64 (r2.1.tdiv 4)).tmod 2) == 1), (((w64 (r2.1.tdiv 8)).tmod 2) == 1), r3.1, r4.1⟩ : SThing)).bind fun r5 =>
  bif r4.2.fBad then
    some ((⟨(0 : Int), (0 : Int), false, false, false, false, (⟨#[]⟩ : ByteArray), (0 : Int)⟩ : SThing), false)
  else
    bif (!r5.2) then
      some ((⟨(0 : Int), (0 : Int), false, false, false, false, (⟨#[]⟩ : ByteArray), (0 : Int)⟩ : SThing), false)
    else
      bif (!((ByteArray.toList r5.1) == (ByteArray.toList text_0))) then
        some ((⟨(0 : Int), (0 : Int), false, false, false, false, (⟨#[]⟩ : ByteArray), (0 : Int)⟩ : SThing), false)
      else
        some ((⟨r0.1, r1.1, ((r2.1.tmod 2) == 1), (((w64 (r2.1.tdiv 2)).tmod 2) == 1), (((w64 (r2.1.tdiv 4)).tmod 2) == 1), (((w64 (r2.1.tdiv 8)).tmod 2) == 1), r3.1, r4.1⟩ : SThing), true)
noncomputable def spec_ReadThing (text_0 : ByteArray) : Option (SThing × Bool) := E_spec_ReadThing spec_l19Var spec_l19One spec_l19ReadShort spec_ThingText text_0
theorem e_spec_ReadThing (spec_l19Var : SL19Cur → Option (Int × SL19Cur)) (spec_l19One : SL19Cur → Option (Int × SL19Cur)) (spec_l19ReadShort : SL19Cur → Option (ByteArray × SL19Cur)) (spec_ThingText : SThing → Option (ByteArray × Bool)) : EntryIs0 ctx PP 149 [] [(148, H_spec_l19Var spec_l19Var), (146, H_spec_l19One spec_l19One), (172, H_spec_l19ReadShort spec_l19ReadShort), (118, H_spec_ThingText spec_ThingText)] cv1 cv44 (fun a => E_spec_ReadThing spec_l19Var spec_l19One spec_l19ReadShort spec_ThingText a) := fun a => by kernel_rfl
theorem ok_spec_ReadThing : Tells ctx PP 149 cv1 cv44 (fun a => spec_ReadThing a) := fn_ok0 (hl_cons h_spec_l19Var (hl_cons h_spec_l19One (hl_cons h_spec_l19ReadShort (hl_cons h_spec_ThingText hl_nil)))) Tryd.func149 (e_spec_ReadThing spec_l19Var spec_l19One spec_l19ReadShort spec_ThingText)
noncomputable def H_spec_ReadThing {γ : Type} (F : ByteArray → Option (SThing × Bool)) : Hd ctx γ := hdl cv1.dec (fun a => F a) cv44.enc
theorem h_spec_ReadThing {γ : Type} : HdOk (γ := γ) PP 149 (H_spec_ReadThing spec_ReadThing) := hd_ok ok_spec_ReadThing
noncomputable def E_spec_RecText (spec_l01In : Int → Int → Int → Option Bool) (spec_l01Var : Int → Option ByteArray) (spec_ThingText : SThing → Option (ByteArray × Bool)) (r_0 : SRec) : Option (ByteArray × Bool) :=
  bif (r_0.fKind == 1) then
    bif ((r_0.fText.size : Int) == 32) then
      bif (r_0.fNum == 0) then
        bif ((r_0.fThing.fId == 0) && ((r_0.fThing.fKind == 0) && ((r_0.fThing.fHidden == false) && ((r_0.fThing.fFixed == false) && ((r_0.fThing.fSigns == false) && ((r_0.fThing.fWraps == false) && (((ByteArray.toList r_0.fThing.fValue) == (ByteArray.toList (⟨#[]⟩ : ByteArray))) && ((r_0.fThing.fNext == 0) && true)))))))) then
          bif (decide (((⟨#[1]⟩ : ByteArray).size + r_0.fText.size) ≤ 9223372036854775807)) then
          some (((⟨#[1]⟩ : ByteArray) ++ r_0.fText), true)
          else none
        else
          some ((⟨#[]⟩ : ByteArray), false)
      else
        some ((⟨#[]⟩ : ByteArray), false)
    else
      some ((⟨#[]⟩ : ByteArray), false)
  else
    bif (r_0.fKind == 2) then
      bif ((ByteArray.toList r_0.fText) == (ByteArray.toList (⟨#[]⟩ : ByteArray))) then
        bif ((r_0.fThing.fId == 0) && ((r_0.fThing.fKind == 0) && ((r_0.fThing.fHidden == false) && ((r_0.fThing.fFixed == false) && ((r_0.fThing.fSigns == false) && ((r_0.fThing.fWraps == false) && (((ByteArray.toList r_0.fThing.fValue) == (ByteArray.toList (⟨#[]⟩ : ByteArray))) && ((r_0.fThing.fNext == 0) && true)))))))) then
          (spec_l01In r_0.fNum (0 : Int) (3 : Int)).bind fun r0 =>
          bif r0 then
            (spec_l01Var r_0.fNum).bind fun r1 =>
            bif (decide (((⟨#[2]⟩ : ByteArray).size + r1.size) ≤ 9223372036854775807)) then
            some (((⟨#[2]⟩ : ByteArray) ++ r1), true)
            else none
          else
            some ((⟨#[]⟩ : ByteArray), false)
        else
          some ((⟨#[]⟩ : ByteArray), false)
      else
        some ((⟨#[]⟩ : ByteArray), false)
    else
      bif (r_0.fKind == 3) then
        (spec_ThingText r_0.fThing).bind fun r2 =>
        bif r2.2 then
          bif ((ByteArray.toList r_0.fText) == (ByteArray.toList (⟨#[]⟩ : ByteArray))) then
            bif (r_0.fNum == 0) then
              bif (decide (((⟨#[3]⟩ : ByteArray).size + r2.1.size) ≤ 9223372036854775807)) then
              some (((⟨#[3]⟩ : ByteArray) ++ r2.1), true)
              else none
            else
              some ((⟨#[]⟩ : ByteArray), false)
          else
            some ((⟨#[]⟩ : ByteArray), false)
        else
          some ((⟨#[]⟩ : ByteArray), false)
      else
        bif (r_0.fKind == 4) then
          bif ((ByteArray.toList r_0.fText) == (ByteArray.toList (⟨#[]⟩ : ByteArray))) then
            bif ((r_0.fThing.fId == 0) && ((r_0.fThing.fKind == 0) && ((r_0.fThing.fHidden == false) && ((r_0.fThing.fFixed == false) && ((r_0.fThing.fSigns == false) && ((r_0.fThing.fWraps == false) && (((ByteArray.toList r_0.fThing.fValue) == (ByteArray.toList (⟨#[]⟩ : ByteArray))) && ((r_0.fThing.fNext == 0) && true)))))))) then
              (spec_l01In r_0.fNum (1 : Int) (1000 : Int)).bind fun r3 =>
              bif r3 then
                (spec_l01Var r_0.fNum).bind fun r4 =>
                bif (decide (((⟨#[4]⟩ : ByteArray).size + r4.size) ≤ 9223372036854775807)) then
                some (((⟨#[4]⟩ : ByteArray) ++ r4), true)
                else none
              else
                some ((⟨#[]⟩ : ByteArray), false)
            else
              some ((⟨#[]⟩ : ByteArray), false)
          else
            some ((⟨#[]⟩ : ByteArray), false)
        else
          some ((⟨#[]⟩ : ByteArray), false)
noncomputable def spec_RecText (r_0 : SRec) : Option (ByteArray × Bool) := E_spec_RecText spec_l01In spec_l01Var spec_ThingText r_0
theorem e_spec_RecText (spec_l01In : Int → Int → Int → Option Bool) (spec_l01Var : Int → Option ByteArray) (spec_ThingText : SThing → Option (ByteArray × Bool)) : EntryIs0 ctx PP 59 [] [(60, H_spec_l01In spec_l01In), (50, H_spec_l01Var spec_l01Var), (118, H_spec_ThingText spec_ThingText)] cv27 cv17 (fun a => E_spec_RecText spec_l01In spec_l01Var spec_ThingText a) := fun a => by kernel_rfl
theorem ok_spec_RecText : Tells ctx PP 59 cv27 cv17 (fun a => spec_RecText a) := fn_ok0 (hl_cons h_spec_l01In (hl_cons h_spec_l01Var (hl_cons h_spec_ThingText hl_nil))) Tryd.func59 (e_spec_RecText spec_l01In spec_l01Var spec_ThingText)
noncomputable def H_spec_RecText {γ : Type} (F : SRec → Option (ByteArray × Bool)) : Hd ctx γ := hdl cv27.dec (fun a => F a) cv17.enc
theorem h_spec_RecText {γ : Type} : HdOk (γ := γ) PP 59 (H_spec_RecText spec_RecText) := hd_ok ok_spec_RecText
noncomputable def E_spec_ReadRec (spec_l19One : SL19Cur → Option (Int × SL19Cur)) (spec_l19Take : SL19Cur → Int → Option (ByteArray × SL19Cur)) (spec_l19Var : SL19Cur → Option (Int × SL19Cur)) (spec_ReadThing : ByteArray → Option (SThing × Bool)) (spec_RecText : SRec → Option (ByteArray × Bool)) (text_0 : ByteArray) : Option (SRec × Bool) :=
  (spec_l19One (⟨text_0, (0 : Int), false⟩ : SL19Cur)).bind fun r0 =>
  bif (r0.1 == 1) then
    (spec_l19Take r0.2 (32 : Int)).bind fun r1 =>
    (spec_RecText (⟨r0.1, r1.1, (0 : Int), (⟨(0 : Int), (0 : Int), false, false, false, false, (⟨#[]⟩ : ByteArray), (0 : Int)⟩ : SThing)⟩ : SRec)).bind fun r2 =>
    bif r1.2.fBad then
      some ((⟨(0 : Int), (⟨#[]⟩ : ByteArray), (0 : Int), (⟨(0 : Int), (0 : Int), false, false, false, false, (⟨#[]⟩ : ByteArray), (0 : Int)⟩ : SThing)⟩ : SRec), false)
    else
      bif (!r2.2) then
        some ((⟨(0 : Int), (⟨#[]⟩ : ByteArray), (0 : Int), (⟨(0 : Int), (0 : Int), false, false, false, false, (⟨#[]⟩ : ByteArray), (0 : Int)⟩ : SThing)⟩ : SRec), false)
      else
        bif (!((ByteArray.toList r2.1) == (ByteArray.toList text_0))) then
          some ((⟨(0 : Int), (⟨#[]⟩ : ByteArray), (0 : Int), (⟨(0 : Int), (0 : Int), false, false, false, false, (⟨#[]⟩ : ByteArray), (0 : Int)⟩ : SThing)⟩ : SRec), false)
        else
          some ((⟨r0.1, r1.1, (0 : Int), (⟨(0 : Int), (0 : Int), false, false, false, false, (⟨#[]⟩ : ByteArray), (0 : Int)⟩ : SThing)⟩ : SRec), true)
  else
    bif (r0.1 == 2) then
      bif (r0.1 == 2) then
        (spec_l19Var r0.2).bind fun r3 =>
        (spec_RecText (⟨r0.1, (⟨#[]⟩ : ByteArray), r3.1, (⟨(0 : Int), (0 : Int), false, false, false, false, (⟨#[]⟩ : ByteArray), (0 : Int)⟩ : SThing)⟩ : SRec)).bind fun r4 =>
        bif r3.2.fBad then
          some ((⟨(0 : Int), (⟨#[]⟩ : ByteArray), (0 : Int), (⟨(0 : Int), (0 : Int), false, false, false, false, (⟨#[]⟩ : ByteArray), (0 : Int)⟩ : SThing)⟩ : SRec), false)
        else
          bif (!r4.2) then
            some ((⟨(0 : Int), (⟨#[]⟩ : ByteArray), (0 : Int), (⟨(0 : Int), (0 : Int), false, false, false, false, (⟨#[]⟩ : ByteArray), (0 : Int)⟩ : SThing)⟩ : SRec), false)
          else
            bif (!((ByteArray.toList r4.1) == (ByteArray.toList text_0))) then
              some ((⟨(0 : Int), (⟨#[]⟩ : ByteArray), (0 : Int), (⟨(0 : Int), (0 : Int), false, false, false, false, (⟨#[]⟩ : ByteArray), (0 : Int)⟩ : SThing)⟩ : SRec), false)
            else
              some ((⟨r0.1, (⟨#[]⟩ : ByteArray), r3.1, (⟨(0 : Int), (0 : Int), false, false, false, false, (⟨#[]⟩ : ByteArray), (0 : Int)⟩ : SThing)⟩ : SRec), true)
      else
        bif (r0.1 == 3) then
          bif ((decide ((0 : Int) ≤ (1 : Int))) && (decide (1 ≤ (text_0.size : Int)))) then
          (spec_ReadThing (text_0.extract (1 : Int).toNat text_0.size)).bind fun r5 =>
          (spec_RecText (⟨r0.1, (⟨#[]⟩ : ByteArray), (0 : Int), r5.1⟩ : SRec)).bind fun r6 =>
          bif r0.2.fBad then
            some ((⟨(0 : Int), (⟨#[]⟩ : ByteArray), (0 : Int), (⟨(0 : Int), (0 : Int), false, false, false, false, (⟨#[]⟩ : ByteArray), (0 : Int)⟩ : SThing)⟩ : SRec), false)
          else
            bif (!r6.2) then
              some ((⟨(0 : Int), (⟨#[]⟩ : ByteArray), (0 : Int), (⟨(0 : Int), (0 : Int), false, false, false, false, (⟨#[]⟩ : ByteArray), (0 : Int)⟩ : SThing)⟩ : SRec), false)
            else
              bif (!((ByteArray.toList r6.1) == (ByteArray.toList text_0))) then
                some ((⟨(0 : Int), (⟨#[]⟩ : ByteArray), (0 : Int), (⟨(0 : Int), (0 : Int), false, false, false, false, (⟨#[]⟩ : ByteArray), (0 : Int)⟩ : SThing)⟩ : SRec), false)
              else
                some ((⟨r0.1, (⟨#[]⟩ : ByteArray), (0 : Int), r5.1⟩ : SRec), true)
          else none
        else
          (spec_RecText (⟨r0.1, (⟨#[]⟩ : ByteArray), (0 : Int), (⟨(0 : Int), (0 : Int), false, false, false, false, (⟨#[]⟩ : ByteArray), (0 : Int)⟩ : SThing)⟩ : SRec)).bind fun r7 =>
          bif r0.2.fBad then
            some ((⟨(0 : Int), (⟨#[]⟩ : ByteArray), (0 : Int), (⟨(0 : Int), (0 : Int), false, false, false, false, (⟨#[]⟩ : ByteArray), (0 : Int)⟩ : SThing)⟩ : SRec), false)
          else
            bif (!r7.2) then
              some ((⟨(0 : Int), (⟨#[]⟩ : ByteArray), (0 : Int), (⟨(0 : Int), (0 : Int), false, false, false, false, (⟨#[]⟩ : ByteArray), (0 : Int)⟩ : SThing)⟩ : SRec), false)
            else
              bif (!((ByteArray.toList r7.1) == (ByteArray.toList text_0))) then
                some ((⟨(0 : Int), (⟨#[]⟩ : ByteArray), (0 : Int), (⟨(0 : Int), (0 : Int), false, false, false, false, (⟨#[]⟩ : ByteArray), (0 : Int)⟩ : SThing)⟩ : SRec), false)
              else
                some ((⟨r0.1, (⟨#[]⟩ : ByteArray), (0 : Int), (⟨(0 : Int), (0 : Int), false, false, false, false, (⟨#[]⟩ : ByteArray), (0 : Int)⟩ : SThing)⟩ : SRec), true)
    else
      bif (r0.1 == 4) then
        (spec_l19Var r0.2).bind fun r8 =>
        (spec_RecText (⟨r0.1, (⟨#[]⟩ : ByteArray), r8.1, (⟨(0 : Int), (0 : Int), false, false, false, false, (⟨#[]⟩ : ByteArray), (0 : Int)⟩ : SThing)⟩ : SRec)).bind fun r9 =>
        bif r8.2.fBad then
          some ((⟨(0 : Int), (⟨#[]⟩ : ByteArray), (0 : Int), (⟨(0 : Int), (0 : Int), false, false, false, false, (⟨#[]⟩ : ByteArray), (0 : Int)⟩ : SThing)⟩ : SRec), false)
        else
          bif (!r9.2) then
            some ((⟨(0 : Int), (⟨#[]⟩ : ByteArray), (0 : Int), (⟨(0 : Int), (0 : Int), false, false, false, false, (⟨#[]⟩ : ByteArray), (0 : Int)⟩ : SThing)⟩ : SRec), false)
          else
            bif (!((ByteArray.toList r9.1) == (ByteArray.toList text_0))) then
              some ((⟨(0 : Int), (⟨#[]⟩ : ByteArray), (0 : Int), (⟨(0 : Int), (0 : Int), false, false, false, false, (⟨#[]⟩ : ByteArray), (0 : Int)⟩ : SThing)⟩ : SRec), false)
            else
              some ((⟨r0.1, (⟨#[]⟩ : ByteArray), r8.1, (⟨(0 : Int), (0 : Int), false, false, false, false, (⟨#[]⟩ : ByteArray), (0 : Int)⟩ : SThing)⟩ : SRec), true)
      else
        bif (r0.1 == 3) then
          bif ((decide ((0 : Int) ≤ (1 : Int))) && (decide (1 ≤ (text_0.size : Int)))) then
          (spec_ReadThing (text_0.extract (1 : Int).toNat text_0.size)).bind fun r10 =>
          (spec_RecText (⟨r0.1, (⟨#[]⟩ : ByteArray), (0 : Int), r10.1⟩ : SRec)).bind fun r11 =>
          bif r0.2.fBad then
            some ((⟨(0 : Int), (⟨#[]⟩ : ByteArray), (0 : Int), (⟨(0 : Int), (0 : Int), false, false, false, false, (⟨#[]⟩ : ByteArray), (0 : Int)⟩ : SThing)⟩ : SRec), false)
          else
            bif (!r11.2) then
              some ((⟨(0 : Int), (⟨#[]⟩ : ByteArray), (0 : Int), (⟨(0 : Int), (0 : Int), false, false, false, false, (⟨#[]⟩ : ByteArray), (0 : Int)⟩ : SThing)⟩ : SRec), false)
            else
              bif (!((ByteArray.toList r11.1) == (ByteArray.toList text_0))) then
                some ((⟨(0 : Int), (⟨#[]⟩ : ByteArray), (0 : Int), (⟨(0 : Int), (0 : Int), false, false, false, false, (⟨#[]⟩ : ByteArray), (0 : Int)⟩ : SThing)⟩ : SRec), false)
              else
                some ((⟨r0.1, (⟨#[]⟩ : ByteArray), (0 : Int), r10.1⟩ : SRec), true)
          else none
        else
          (spec_RecText (⟨r0.1, (⟨#[]⟩ : ByteArray), (0 : Int), (⟨(0 : Int), (0 : Int), false, false, false, false, (⟨#[]⟩ : ByteArray), (0 : Int)⟩ : SThing)⟩ : SRec)).bind fun r12 =>
          bif r0.2.fBad then
            some ((⟨(0 : Int), (⟨#[]⟩ : ByteArray), (0 : Int), (⟨(0 : Int), (0 : Int), false, false, false, false, (⟨#[]⟩ : ByteArray), (0 : Int)⟩ : SThing)⟩ : SRec), false)
          else
            bif (!r12.2) then
              some ((⟨(0 : Int), (⟨#[]⟩ : ByteArray), (0 : Int), (⟨(0 : Int), (0 : Int), false, false, false, false, (⟨#[]⟩ : ByteArray), (0 : Int)⟩ : SThing)⟩ : SRec), false)
            else
              bif (!((ByteArray.toList r12.1) == (ByteArray.toList text_0))) then
                some ((⟨(0 : Int), (⟨#[]⟩ : ByteArray), (0 : Int), (⟨(0 : Int), (0 : Int), false, false, false, false, (⟨#[]⟩ : ByteArray), (0 : Int)⟩ : SThing)⟩ : SRec), false)
              else
                some ((⟨r0.1, (⟨#[]⟩ : ByteArray), (0 : Int), (⟨(0 : Int), (0 : Int), false, false, false, false, (⟨#[]⟩ : ByteArray), (0 : Int)⟩ : SThing)⟩ : SRec), true)
noncomputable def spec_ReadRec (text_0 : ByteArray) : Option (SRec × Bool) := E_spec_ReadRec spec_l19One spec_l19Take spec_l19Var spec_ReadThing spec_RecText text_0
theorem e_spec_ReadRec (spec_l19One : SL19Cur → Option (Int × SL19Cur)) (spec_l19Take : SL19Cur → Int → Option (ByteArray × SL19Cur)) (spec_l19Var : SL19Cur → Option (Int × SL19Cur)) (spec_ReadThing : ByteArray → Option (SThing × Bool)) (spec_RecText : SRec → Option (ByteArray × Bool)) : EntryIs0 ctx PP 105 [] [(146, H_spec_l19One spec_l19One), (147, H_spec_l19Take spec_l19Take), (148, H_spec_l19Var spec_l19Var), (149, H_spec_ReadThing spec_ReadThing), (59, H_spec_RecText spec_RecText)] cv1 cv119 (fun a => E_spec_ReadRec spec_l19One spec_l19Take spec_l19Var spec_ReadThing spec_RecText a) := fun a => by kernel_rfl
theorem ok_spec_ReadRec : Tells ctx PP 105 cv1 cv119 (fun a => spec_ReadRec a) := fn_ok0 (hl_cons h_spec_l19One (hl_cons h_spec_l19Take (hl_cons h_spec_l19Var (hl_cons h_spec_ReadThing (hl_cons h_spec_RecText hl_nil))))) Tryd.func105 (e_spec_ReadRec spec_l19One spec_l19Take spec_l19Var spec_ReadThing spec_RecText)
noncomputable def H_spec_ReadRec {γ : Type} (F : ByteArray → Option (SRec × Bool)) : Hd ctx γ := hdl cv1.dec (fun a => F a) cv119.enc
theorem h_spec_ReadRec {γ : Type} : HdOk (γ := γ) PP 105 (H_spec_ReadRec spec_ReadRec) := hd_ok ok_spec_ReadRec
noncomputable def todo_spec_ReadBook_0 : List Go.Item := [.code (cAt (bodyOf Tryd.f47) [1, 1, 1, 1, 0, 1, 0, 0, 0, 0]), .code (cAt (bodyOf Tryd.f47) [1, 1, 1, 1, 0, 1, 0, 0, 0, 1]), .code (cAt (bodyOf Tryd.f47) [1, 1, 1, 1, 0, 1, 0, 0, 1]), .inLoop (cAt (bodyOf Tryd.f47) [1, 1, 1, 1, 0, 1, 0, 0]), .inBlock 0, .code (cAt (bodyOf Tryd.f47) [1, 1, 1, 1, 1])]
inductive St_spec_ReadBook where
  | c0 (key_0 : ByteArray) (end_9 : Int) (i_10 : Int) (out_6 : (List SRec)) (list_7 : (List ByteArray))
noncomputable def at_spec_ReadBook : St_spec_ReadBook → LI
  | .c0 key_0 end_9 i_10 out_6 list_7 => (todo_spec_ReadBook_0, [(0, [.one (.str key_0)]), (6, [.one (.own 432)]), (7, [.one (.own 496)]), (9, [.one (.int .i64 end_9)]), (10, [.one (.int .i64 i_10)])], [(432, .sl 35 out_6), (496, .sl 9 list_7)])
noncomputable def E_spec_ReadBook (spec_Unframe : ByteArray → Option ((List ByteArray) × Int)) (spec_OpenText : ByteArray → Int → ByteArray → Option (ByteArray × Bool)) (spec_ReadRec : ByteArray → Option (SRec × Bool)) (spec_Frame : ByteArray → Option (ByteArray × Bool)) (k : St_spec_ReadBook → Option ((List SRec) × Int)) (key_0 : ByteArray) (file_1 : ByteArray) : Option ((List SRec) × Int) :=
  (spec_Unframe file_1).bind fun r0 =>
  k (.c0 key_0 (0 : Int) (0 : Int) [] r0.1)
noncomputable def B_spec_ReadBook (spec_Unframe : ByteArray → Option ((List ByteArray) × Int)) (spec_OpenText : ByteArray → Int → ByteArray → Option (ByteArray × Bool)) (spec_ReadRec : ByteArray → Option (SRec × Bool)) (spec_Frame : ByteArray → Option (ByteArray × Bool)) (k : St_spec_ReadBook → Option ((List SRec) × Int)) : St_spec_ReadBook → Option ((List SRec) × Int)
  | .c0 key_0 end_9 i_10 out_6 list_7 =>
    bif (decide (i_10 < (list_7.length : Int))) then
      bif ((decide (0 ≤ i_10)) && (decide (i_10 < (list_7.length : Int)))) then
      (spec_OpenText key_0 (w64 (i_10 + 1)) (list_7.getD i_10.toNat (⟨#[]⟩ : ByteArray))).bind fun r0 =>
      (spec_ReadRec r0.1).bind fun r1 =>
      bif (!r0.2) then
        some (out_6, end_9)
      else
        bif (!r1.2) then
          some (out_6, end_9)
        else
          bif (decide (((out_6.length + 1) * 80) ≤ 140737488355328)) then
          bif ((decide (0 ≤ i_10)) && (decide (i_10 < (list_7.length : Int)))) then
          (spec_Frame (list_7.getD i_10.toNat (⟨#[]⟩ : ByteArray))).bind fun r2 =>
          k (.c0 key_0 (w64 (end_9 + (r2.1.size : Int))) (w64 (i_10 + 1)) (out_6 ++ [r1.1]) list_7)
          else none
          else none
      else none
    else
      some (out_6, end_9)
noncomputable def L_spec_ReadBook : Nat → St_spec_ReadBook → Option ((List SRec) × Int)
  | 0, _ => none
  | m + 1, s => B_spec_ReadBook spec_Unframe spec_OpenText spec_ReadRec spec_Frame (L_spec_ReadBook m) s
noncomputable def spec_ReadBook (key_0 : ByteArray) (file_1 : ByteArray) : Option ((List SRec) × Int) := E_spec_ReadBook spec_Unframe spec_OpenText spec_ReadRec spec_Frame (L_spec_ReadBook gas) key_0 file_1
theorem e_spec_ReadBook (spec_Unframe : ByteArray → Option ((List ByteArray) × Int)) (spec_OpenText : ByteArray → Int → ByteArray → Option (ByteArray × Bool)) (spec_ReadRec : ByteArray → Option (SRec × Bool)) (spec_Frame : ByteArray → Option (ByteArray × Bool)) : EntryIs ctx PP 47 [] [(104, H_spec_Unframe spec_Unframe), (54, H_spec_OpenText spec_OpenText), (105, H_spec_ReadRec spec_ReadRec), (61, H_spec_Frame spec_Frame)] cv15 cv112 at_spec_ReadBook (fun k a => E_spec_ReadBook spec_Unframe spec_OpenText spec_ReadRec spec_Frame k a.1 a.2) := fun stop a => by kernel_rfl
theorem b_spec_ReadBook (spec_Unframe : ByteArray → Option ((List ByteArray) × Int)) (spec_OpenText : ByteArray → Int → ByteArray → Option (ByteArray × Bool)) (spec_ReadRec : ByteArray → Option (SRec × Bool)) (spec_Frame : ByteArray → Option (ByteArray × Bool)) : CutIs ctx PP 47 Tryd.f47 [] [(104, H_spec_Unframe spec_Unframe), (54, H_spec_OpenText spec_OpenText), (105, H_spec_ReadRec spec_ReadRec), (61, H_spec_Frame spec_Frame)] cv112 at_spec_ReadBook (B_spec_ReadBook spec_Unframe spec_OpenText spec_ReadRec spec_Frame) := fun stop s => by cases s <;> kernel_rfl
theorem i_spec_ReadBook : ∀ s s', at_spec_ReadBook s = at_spec_ReadBook s' → s = s' := by
  intro s s' h
  cases s with
  | c0 v0 v1 v2 v3 v4 => cases s' with
    | c0 w0 w1 w2 w3 w4 => cases h; rfl
theorem ok_spec_ReadBook : Tells ctx PP 47 cv15 cv112 (fun a => spec_ReadBook a.1 a.2) := fn_ok (hl_cons h_spec_Unframe (hl_cons h_spec_OpenText (hl_cons h_spec_ReadRec (hl_cons h_spec_Frame hl_nil)))) Tryd.func47 i_spec_ReadBook (fun _ => rfl) (fun _ _ => rfl) (b_spec_ReadBook spec_Unframe spec_OpenText spec_ReadRec spec_Frame) (e_spec_ReadBook spec_Unframe spec_OpenText spec_ReadRec spec_Frame) gas
noncomputable def H_spec_ReadBook {γ : Type} (F : ByteArray → ByteArray → Option ((List SRec) × Int)) : Hd ctx γ := hdl cv15.dec (fun a => F a.1 a.2) cv112.enc
theorem h_spec_ReadBook {γ : Type} : HdOk (γ := γ) PP 47 (H_spec_ReadBook spec_ReadBook) := hd_ok ok_spec_ReadBook
noncomputable def E_impl_in  (n_0 : Int) (low_1 : Int) (high_2 : Int) : Option Bool :=
  bif (decide (n_0 ≥ low_1)) then
    some (decide (n_0 ≤ high_2))
  else
    some false
noncomputable def impl_in (n_0 : Int) (low_1 : Int) (high_2 : Int) : Option Bool := E_impl_in  n_0 low_1 high_2
theorem e_impl_in  : EntryIs0 ctx PP 64 [] [] cv2 cv3 (fun a => E_impl_in  a.1 a.2.1 a.2.2) := fun a => by kernel_rfl
theorem ok_impl_in : Tells ctx PP 64 cv2 cv3 (fun a => impl_in a.1 a.2.1 a.2.2) := fn_ok0 hl_nil Tryd.func64 (e_impl_in )
noncomputable def H_impl_in {γ : Type} (F : Int → Int → Int → Option Bool) : Hd ctx γ := hdl cv2.dec (fun a => F a.1 a.2.1 a.2.2) cv3.enc
theorem h_impl_in {γ : Type} : HdOk (γ := γ) PP 64 (H_impl_in impl_in) := hd_ok ok_impl_in
noncomputable def todo_impl_ReadVar_0 : List Go.Item := [.code (cAt (bodyOf Tryd.f117) [1, 1, 1, 0, 1, 0, 0, 0, 0]), .code (cAt (bodyOf Tryd.f117) [1, 1, 1, 0, 1, 0, 0, 0, 1]), .code (cAt (bodyOf Tryd.f117) [1, 1, 1, 0, 1, 0, 0, 1]), .inLoop (cAt (bodyOf Tryd.f117) [1, 1, 1, 0, 1, 0, 0]), .inBlock 0, .code (cAt (bodyOf Tryd.f117) [1, 1, 1, 1])]
inductive St_impl_ReadVar where
  | c0 (text_0 : ByteArray) (at_1 : Int) (n_7 : Int) (k_8 : Int)
noncomputable def at_impl_ReadVar : St_impl_ReadVar → LI
  | .c0 text_0 at_1 n_7 k_8 => (todo_impl_ReadVar_0, [(0, [.one (.str text_0)]), (1, [.one (.int .i64 at_1)]), (7, [.one (.int .i64 n_7)]), (8, [.one (.int .i64 k_8)])], [])
noncomputable def E_impl_ReadVar (impl_in : Int → Int → Int → Option Bool) (k : St_impl_ReadVar → Option (Int × Int × Bool)) (text_0 : ByteArray) (at_1 : Int) : Option (Int × Int × Bool) :=
  (impl_in at_1 (0 : Int) (text_0.size : Int)).bind fun r0 =>
  bif (!r0) then
    some ((0 : Int), ((0 : Int), false))
  else
    k (.c0 text_0 at_1 (0 : Int) (0 : Int))
noncomputable def B_impl_ReadVar (impl_in : Int → Int → Int → Option Bool) (k : St_impl_ReadVar → Option (Int × Int × Bool)) : St_impl_ReadVar → Option (Int × Int × Bool)
  | .c0 text_0 at_1 n_7 k_8 =>
    bif (decide (k_8 < 5)) then
      bif (decide ((w64 (at_1 + k_8)) < (text_0.size : Int))) then
        bif ((decide (0 ≤ (w64 (at_1 + k_8)))) && (decide ((w64 (at_1 + k_8)) < (text_0.size : Int)))) then
        bif (decide (0 ≤ (w64 (7 * k_8)))) then
        bif (decide ((w64 (bt text_0 (w64 (at_1 + k_8)))) < 128)) then
          bif ((w64 (bt text_0 (w64 (at_1 + k_8)))) == 0) then
            bif (decide (k_8 > 0)) then
              some ((0 : Int), ((0 : Int), false))
            else
              bif (decide ((w64 (n_7 + (w64 (((w64 (bt text_0 (w64 (at_1 + k_8)))).tmod 128) * (2 ^ (Min.min (w64 (7 * k_8)).toNat (IntKind.bits IntKind.i64))))))) > 1000000000)) then
                some ((0 : Int), ((0 : Int), false))
              else
                some ((w64 (n_7 + (w64 (((w64 (bt text_0 (w64 (at_1 + k_8)))).tmod 128) * (2 ^ (Min.min (w64 (7 * k_8)).toNat (IntKind.bits IntKind.i64))))))), ((w64 ((w64 (at_1 + k_8)) + 1)), true))
          else
            bif (decide ((w64 (n_7 + (w64 (((w64 (bt text_0 (w64 (at_1 + k_8)))).tmod 128) * (2 ^ (Min.min (w64 (7 * k_8)).toNat (IntKind.bits IntKind.i64))))))) > 1000000000)) then
              some ((0 : Int), ((0 : Int), false))
            else
              some ((w64 (n_7 + (w64 (((w64 (bt text_0 (w64 (at_1 + k_8)))).tmod 128) * (2 ^ (Min.min (w64 (7 * k_8)).toNat (IntKind.bits IntKind.i64))))))), ((w64 ((w64 (at_1 + k_8)) + 1)), true))
        else
          k (.c0 text_0 at_1 (w64 (n_7 + (w64 (((w64 (bt text_0 (w64 (at_1 + k_8)))).tmod 128) * (2 ^ (Min.min (w64 (7 * k_8)).toNat (IntKind.bits IntKind.i64))))))) (w64 (k_8 + 1)))
        else none
        else none
      else
        some ((0 : Int), ((0 : Int), false))
    else
      some ((0 : Int), ((0 : Int), false))
noncomputable def L_impl_ReadVar : Nat → St_impl_ReadVar → Option (Int × Int × Bool)
  | 0, _ => none
  | m + 1, s => B_impl_ReadVar impl_in (L_impl_ReadVar m) s
noncomputable def impl_ReadVar (text_0 : ByteArray) (at_1 : Int) : Option (Int × Int × Bool) := E_impl_ReadVar impl_in (L_impl_ReadVar gas) text_0 at_1
theorem e_impl_ReadVar (impl_in : Int → Int → Int → Option Bool) : EntryIs ctx PP 117 [] [(64, H_impl_in impl_in)] cv8 cv22 at_impl_ReadVar (fun k a => E_impl_ReadVar impl_in k a.1 a.2) := fun stop a => by kernel_rfl
theorem b_impl_ReadVar (impl_in : Int → Int → Int → Option Bool) : CutIs ctx PP 117 Tryd.f117 [] [(64, H_impl_in impl_in)] cv22 at_impl_ReadVar (B_impl_ReadVar impl_in) := fun stop s => by cases s <;> kernel_rfl
theorem i_impl_ReadVar : ∀ s s', at_impl_ReadVar s = at_impl_ReadVar s' → s = s' := by
  intro s s' h
  cases s with
  | c0 v0 v1 v2 v3 => cases s' with
    | c0 w0 w1 w2 w3 => cases h; rfl
theorem ok_impl_ReadVar : Tells ctx PP 117 cv8 cv22 (fun a => impl_ReadVar a.1 a.2) := fn_ok (hl_cons h_impl_in hl_nil) Tryd.func117 i_impl_ReadVar (fun _ => rfl) (fun _ _ => rfl) (b_impl_ReadVar impl_in) (e_impl_ReadVar impl_in) gas
noncomputable def H_impl_ReadVar {γ : Type} (F : ByteArray → Int → Option (Int × Int × Bool)) : Hd ctx γ := hdl cv8.dec (fun a => F a.1 a.2) cv22.enc
theorem h_impl_ReadVar {γ : Type} : HdOk (γ := γ) PP 117 (H_impl_ReadVar impl_ReadVar) := hd_ok ok_impl_ReadVar
noncomputable def todo_impl_SumMore_0 : List Go.Item := [.code (cAt (bodyOf Tryd.f160) [1, 0, 1, 0, 0, 0, 0]), .code (cAt (bodyOf Tryd.f160) [1, 0, 1, 0, 0, 0, 1]), .code (cAt (bodyOf Tryd.f160) [1, 0, 1, 0, 0, 1]), .inLoop (cAt (bodyOf Tryd.f160) [1, 0, 1, 0, 0]), .inBlock 0, .code (cAt (bodyOf Tryd.f160) [1, 1])]
noncomputable def todo_impl_SumMore_1 : List Go.Item := [.code (cAt (bodyOf Tryd.f160) [1, 0, 1, 0, 0, 1, 0, 0, 1, 1, 0, 0, 0]), .code (cAt (bodyOf Tryd.f160) [1, 0, 1, 0, 0, 1, 0, 0, 1, 1, 0, 0, 1]), .inLoop (cAt (bodyOf Tryd.f160) [1, 0, 1, 0, 0, 1, 0, 0, 1, 1, 0, 0]), .inBlock 2, .inBlock 1, .code (cAt (bodyOf Tryd.f160) [1, 0, 1, 0, 0, 1, 1]), .inLoop (cAt (bodyOf Tryd.f160) [1, 0, 1, 0, 0]), .inBlock 0, .code (cAt (bodyOf Tryd.f160) [1, 1])]
inductive St_impl_SumMore where
  | c0 (sum_0 : Int) (text_1 : ByteArray) (i_5 : Int)
  | c1 (sum_0 : Int) (text_1 : ByteArray) (i_5 : Int) (v_19 : Int)
noncomputable def at_impl_SumMore : St_impl_SumMore → LI
  | .c0 sum_0 text_1 i_5 => (todo_impl_SumMore_0, [(0, [.one (.int .u32 sum_0)]), (1, [.one (.str text_1)]), (5, [.one (.int .i64 i_5)])], [])
  | .c1 sum_0 text_1 i_5 v_19 => (todo_impl_SumMore_1, [(0, [.one (.int .u32 sum_0)]), (1, [.one (.str text_1)]), (5, [.one (.int .i64 i_5)]), (19, [.one (.int .i64 v_19)])], [])
noncomputable def E_impl_SumMore  (k : St_impl_SumMore → Option Int) (sum_0 : Int) (text_1 : ByteArray) : Option Int :=
  k (.c0 sum_0 text_1 (0 : Int))
noncomputable def B_impl_SumMore  (k : St_impl_SumMore → Option Int) : St_impl_SumMore → Option Int
  | .c0 sum_0 text_1 i_5 =>
    bif (decide (i_5 < (text_1.size : Int))) then
      bif ((decide (0 ≤ i_5)) && (decide (i_5 < (text_1.size : Int)))) then
      k (.c1 (w32 (((BitVec.toNat ((BitVec.ofInt (IntKind.bits IntKind.u32) sum_0) ^^^ (BitVec.ofInt (IntKind.bits IntKind.u32) (w32 (bt text_1 i_5))))) : Nat) : Int)) text_1 i_5 (0 : Int))
      else none
    else
      some sum_0
  | .c1 sum_0 text_1 i_5 v_19 =>
    bif (decide (v_19 < 8)) then
      bif ((w32 (((BitVec.toNat ((BitVec.ofInt (IntKind.bits IntKind.u32) sum_0) &&& (BitVec.ofInt (IntKind.bits IntKind.u32) (1 : Int)))) : Nat) : Int)) == 1) then
        k (.c1 (w32 (((BitVec.toNat ((BitVec.ofInt (IntKind.bits IntKind.u32) (Int.fdiv sum_0 (2 ^ (Min.min (1 : Int).toNat (IntKind.bits IntKind.u32))))) ^^^ (BitVec.ofInt (IntKind.bits IntKind.u32) (3558460437 : Int)))) : Nat) : Int)) text_1 i_5 (w64 (v_19 + 1)))
      else
        k (.c1 (Int.fdiv sum_0 (2 ^ (Min.min (1 : Int).toNat (IntKind.bits IntKind.u32)))) text_1 i_5 (w64 (v_19 + 1)))
    else
      k (.c0 sum_0 text_1 (w64 (i_5 + 1)))
noncomputable def L_impl_SumMore : Nat → St_impl_SumMore → Option Int
  | 0, _ => none
  | m + 1, s => B_impl_SumMore  (L_impl_SumMore m) s
noncomputable def impl_SumMore (sum_0 : Int) (text_1 : ByteArray) : Option Int := E_impl_SumMore  (L_impl_SumMore gas) sum_0 text_1
theorem e_impl_SumMore  : EntryIs ctx PP 160 [] [] cv29 cv9 at_impl_SumMore (fun k a => E_impl_SumMore  k a.1 a.2) := fun stop a => by kernel_rfl
theorem b_impl_SumMore  : CutIs ctx PP 160 Tryd.f160 [] [] cv9 at_impl_SumMore (B_impl_SumMore ) := fun stop s => by cases s <;> kernel_rfl
theorem i_impl_SumMore : ∀ s s', at_impl_SumMore s = at_impl_SumMore s' → s = s' := by
  intro s s' h
  cases s with
  | c0 v0 v1 v2 => cases s' with
    | c0 w0 w1 w2 => cases h; rfl
    | c1 w0 w1 w2 w3 => exact (region_ne 2 6 h (by kernel_rfl) (by kernel_rfl) rfl).elim
  | c1 v0 v1 v2 v3 => cases s' with
    | c0 w0 w1 w2 => exact (region_ne 6 2 h (by kernel_rfl) (by kernel_rfl) rfl).elim
    | c1 w0 w1 w2 w3 => cases h; rfl
theorem ok_impl_SumMore : Tells ctx PP 160 cv29 cv9 (fun a => impl_SumMore a.1 a.2) := fn_ok hl_nil Tryd.func160 i_impl_SumMore (fun _ => rfl) (fun _ _ => rfl) (b_impl_SumMore ) (e_impl_SumMore ) gas
noncomputable def H_impl_SumMore {γ : Type} (F : Int → ByteArray → Option Int) : Hd ctx γ := hdl cv29.dec (fun a => F a.1 a.2) cv9.enc
theorem h_impl_SumMore {γ : Type} : HdOk (γ := γ) PP 160 (H_impl_SumMore impl_SumMore) := hd_ok ok_impl_SumMore
noncomputable def E_impl_SumOf (impl_SumMore : Int → ByteArray → Option Int) (text_0 : ByteArray) : Option Int :=
  (impl_SumMore (4294967295 : Int) text_0).bind fun r0 =>
  some r0
noncomputable def impl_SumOf (text_0 : ByteArray) : Option Int := E_impl_SumOf impl_SumMore text_0
theorem e_impl_SumOf (impl_SumMore : Int → ByteArray → Option Int) : EntryIs0 ctx PP 124 [] [(160, H_impl_SumMore impl_SumMore)] cv1 cv9 (fun a => E_impl_SumOf impl_SumMore a) := fun a => by kernel_rfl
theorem ok_impl_SumOf : Tells ctx PP 124 cv1 cv9 (fun a => impl_SumOf a) := fn_ok0 (hl_cons h_impl_SumMore hl_nil) Tryd.func124 (e_impl_SumOf impl_SumMore)
noncomputable def H_impl_SumOf {γ : Type} (F : ByteArray → Option Int) : Hd ctx γ := hdl cv1.dec (fun a => F a) cv9.enc
theorem h_impl_SumOf {γ : Type} : HdOk (γ := γ) PP 124 (H_impl_SumOf impl_SumOf) := hd_ok ok_impl_SumOf
noncomputable def E_impl_fourBytes  (n_0 : Int) : Option ByteArray :=
  some (ofBytes [(w8 (Int.fdiv n_0 (2 ^ (Min.min (24 : Int).toNat (IntKind.bits IntKind.u32))))), (w8 (Int.fdiv n_0 (2 ^ (Min.min (16 : Int).toNat (IntKind.bits IntKind.u32))))), (w8 (Int.fdiv n_0 (2 ^ (Min.min (8 : Int).toNat (IntKind.bits IntKind.u32))))), (w8 n_0)])
noncomputable def impl_fourBytes (n_0 : Int) : Option ByteArray := E_impl_fourBytes  n_0
theorem e_impl_fourBytes  : EntryIs0 ctx PP 123 [] [] cv9 cv1 (fun a => E_impl_fourBytes  a) := fun a => by kernel_rfl
theorem ok_impl_fourBytes : Tells ctx PP 123 cv9 cv1 (fun a => impl_fourBytes a) := fn_ok0 hl_nil Tryd.func123 (e_impl_fourBytes )
noncomputable def H_impl_fourBytes {γ : Type} (F : Int → Option ByteArray) : Hd ctx γ := hdl cv9.dec (fun a => F a) cv1.enc
theorem h_impl_fourBytes {γ : Type} : HdOk (γ := γ) PP 123 (H_impl_fourBytes impl_fourBytes) := hd_ok ok_impl_fourBytes
noncomputable def todo_impl_Unframe_0 : List Go.Item := [.code (cAt (bodyOf Tryd.f106) [1, 1, 1, 1, 0, 0, 0, 0]), .code (cAt (bodyOf Tryd.f106) [1, 1, 1, 1, 0, 0, 0, 1]), .inBlock 1, .inLoop (cAt (bodyOf Tryd.f106) [1, 1, 1, 1, 0, 0]), .inBlock 0]
inductive St_impl_Unframe where
  | c0 (file_0 : ByteArray) (at_5 : Int) (out_4 : (List ByteArray))
noncomputable def at_impl_Unframe : St_impl_Unframe → LI
  | .c0 file_0 at_5 out_4 => (todo_impl_Unframe_0, [(0, [.one (.str file_0)]), (4, [.one (.own 304)]), (5, [.one (.int .i64 at_5)])], [(304, .sl 9 out_4)])
noncomputable def E_impl_Unframe (impl_ReadVar : ByteArray → Int → Option (Int × Int × Bool)) (impl_in : Int → Int → Int → Option Bool) (impl_SumOf : ByteArray → Option Int) (impl_fourBytes : Int → Option ByteArray) (k : St_impl_Unframe → Option ((List ByteArray) × Int)) (file_0 : ByteArray) : Option ((List ByteArray) × Int) :=
  bif (decide ((file_0.size : Int) > 20000)) then
    some ([], (0 : Int))
  else
    k (.c0 file_0 (0 : Int) [])
noncomputable def B_impl_Unframe (impl_ReadVar : ByteArray → Int → Option (Int × Int × Bool)) (impl_in : Int → Int → Int → Option Bool) (impl_SumOf : ByteArray → Option Int) (impl_fourBytes : Int → Option ByteArray) (k : St_impl_Unframe → Option ((List ByteArray) × Int)) : St_impl_Unframe → Option ((List ByteArray) × Int)
  | .c0 file_0 at_5 out_4 =>
    (impl_ReadVar file_0 at_5).bind fun r0 =>
    bif (!r0.2.2) then
      some (out_4, at_5)
    else
      (impl_in r0.1 (1 : Int) (9000 : Int)).bind fun r1 =>
      bif (!r1) then
        some (out_4, at_5)
      else
        bif (decide (r0.1 > (w64 ((w64 ((file_0.size : Int) - r0.2.1)) - 4)))) then
          some (out_4, at_5)
        else
          bif (((decide (0 ≤ (w64 (r0.2.1 + 4)))) && (decide ((w64 (r0.2.1 + 4)) ≤ (w64 ((w64 (r0.2.1 + 4)) + r0.1))))) && (decide ((w64 ((w64 (r0.2.1 + 4)) + r0.1)) ≤ (file_0.size : Int)))) then
          bif (((decide (0 ≤ r0.2.1)) && (decide (r0.2.1 ≤ (w64 (r0.2.1 + 4))))) && (decide ((w64 (r0.2.1 + 4)) ≤ (file_0.size : Int)))) then
          (impl_SumOf (file_0.extract (w64 (r0.2.1 + 4)).toNat (w64 ((w64 (r0.2.1 + 4)) + r0.1)).toNat)).bind fun r2 =>
          (impl_fourBytes r2).bind fun r3 =>
          bif (!((ByteArray.toList (file_0.extract r0.2.1.toNat (w64 (r0.2.1 + 4)).toNat)) == (ByteArray.toList r3))) then
            some (out_4, at_5)
          else
            bif (decide (((out_4.length + 1) * 16) ≤ 140737488355328)) then
            k (.c0 file_0 (w64 ((w64 (r0.2.1 + 4)) + r0.1)) (out_4 ++ [(file_0.extract (w64 (r0.2.1 + 4)).toNat (w64 ((w64 (r0.2.1 + 4)) + r0.1)).toNat)]))
            else none
          else none
          else none
noncomputable def L_impl_Unframe : Nat → St_impl_Unframe → Option ((List ByteArray) × Int)
  | 0, _ => none
  | m + 1, s => B_impl_Unframe impl_ReadVar impl_in impl_SumOf impl_fourBytes (L_impl_Unframe m) s
noncomputable def impl_Unframe (file_0 : ByteArray) : Option ((List ByteArray) × Int) := E_impl_Unframe impl_ReadVar impl_in impl_SumOf impl_fourBytes (L_impl_Unframe gas) file_0
theorem e_impl_Unframe (impl_ReadVar : ByteArray → Int → Option (Int × Int × Bool)) (impl_in : Int → Int → Int → Option Bool) (impl_SumOf : ByteArray → Option Int) (impl_fourBytes : Int → Option ByteArray) : EntryIs ctx PP 106 [] [(117, H_impl_ReadVar impl_ReadVar), (64, H_impl_in impl_in), (124, H_impl_SumOf impl_SumOf), (123, H_impl_fourBytes impl_fourBytes)] cv1 cv114 at_impl_Unframe (fun k a => E_impl_Unframe impl_ReadVar impl_in impl_SumOf impl_fourBytes k a) := fun stop a => by kernel_rfl
theorem b_impl_Unframe (impl_ReadVar : ByteArray → Int → Option (Int × Int × Bool)) (impl_in : Int → Int → Int → Option Bool) (impl_SumOf : ByteArray → Option Int) (impl_fourBytes : Int → Option ByteArray) : CutIs ctx PP 106 Tryd.f106 [] [(117, H_impl_ReadVar impl_ReadVar), (64, H_impl_in impl_in), (124, H_impl_SumOf impl_SumOf), (123, H_impl_fourBytes impl_fourBytes)] cv114 at_impl_Unframe (B_impl_Unframe impl_ReadVar impl_in impl_SumOf impl_fourBytes) := fun stop s => by cases s <;> kernel_rfl
theorem i_impl_Unframe : ∀ s s', at_impl_Unframe s = at_impl_Unframe s' → s = s' := by
  intro s s' h
  cases s with
  | c0 v0 v1 v2 => cases s' with
    | c0 w0 w1 w2 => cases h; rfl
theorem ok_impl_Unframe : Tells ctx PP 106 cv1 cv114 (fun a => impl_Unframe a) := fn_ok (hl_cons h_impl_ReadVar (hl_cons h_impl_in (hl_cons h_impl_SumOf (hl_cons h_impl_fourBytes hl_nil)))) Tryd.func106 i_impl_Unframe (fun _ => rfl) (fun _ _ => rfl) (b_impl_Unframe impl_ReadVar impl_in impl_SumOf impl_fourBytes) (e_impl_Unframe impl_ReadVar impl_in impl_SumOf impl_fourBytes) gas
noncomputable def H_impl_Unframe {γ : Type} (F : ByteArray → Option ((List ByteArray) × Int)) : Hd ctx γ := hdl cv1.dec (fun a => F a) cv114.enc
theorem h_impl_Unframe {γ : Type} : HdOk (γ := γ) PP 106 (H_impl_Unframe impl_Unframe) := hd_ok ok_impl_Unframe
noncomputable def todo_impl_varText_0 : List Go.Item := [.code (cAt (bodyOf Tryd.f114) [1, 1, 0, 0, 0, 0, 0]), .code (cAt (bodyOf Tryd.f114) [1, 1, 0, 0, 0, 0, 1]), .code (cAt (bodyOf Tryd.f114) [1, 1, 0, 0, 0, 1]), .inLoop (cAt (bodyOf Tryd.f114) [1, 1, 0, 0, 0]), .inBlock 0, .code (cAt (bodyOf Tryd.f114) [1, 1, 1])]
inductive St_impl_varText where
  | c0 (n_0 : Int) (out_3 : (List Int))
noncomputable def at_impl_varText : St_impl_varText → LI
  | .c0 n_0 out_3 => (todo_impl_varText_0, [(0, [.one (.int .i64 n_0)]), (3, [.one (.own 240)])], [(240, .sl 5 out_3)])
noncomputable def E_impl_varText  (k : St_impl_varText → Option ByteArray) (n_0 : Int) : Option ByteArray :=
  k (.c0 n_0 [])
noncomputable def B_impl_varText  (k : St_impl_varText → Option ByteArray) : St_impl_varText → Option ByteArray
  | .c0 n_0 out_3 =>
    bif (decide (n_0 > 127)) then
      bif (decide (((out_3.length + 1) * 1) ≤ 140737488355328)) then
      k (.c0 (w64 (n_0.tdiv 128)) (out_3 ++ [(w8 (w64 (128 + (n_0.tmod 128))))]))
      else none
    else
      bif (decide (((out_3.length + 1) * 1) ≤ 140737488355328)) then
      some (ofBytes (out_3 ++ [(w8 n_0)]))
      else none
noncomputable def L_impl_varText : Nat → St_impl_varText → Option ByteArray
  | 0, _ => none
  | m + 1, s => B_impl_varText  (L_impl_varText m) s
noncomputable def impl_varText (n_0 : Int) : Option ByteArray := E_impl_varText  (L_impl_varText gas) n_0
theorem e_impl_varText  : EntryIs ctx PP 114 [] [] cv0 cv1 at_impl_varText (fun k a => E_impl_varText  k a) := fun stop a => by kernel_rfl
theorem b_impl_varText  : CutIs ctx PP 114 Tryd.f114 [] [] cv1 at_impl_varText (B_impl_varText ) := fun stop s => by cases s <;> kernel_rfl
theorem i_impl_varText : ∀ s s', at_impl_varText s = at_impl_varText s' → s = s' := by
  intro s s' h
  cases s with
  | c0 v0 v1 => cases s' with
    | c0 w0 w1 => cases h; rfl
theorem ok_impl_varText : Tells ctx PP 114 cv0 cv1 (fun a => impl_varText a) := fn_ok hl_nil Tryd.func114 i_impl_varText (fun _ => rfl) (fun _ _ => rfl) (b_impl_varText ) (e_impl_varText ) gas
noncomputable def H_impl_varText {γ : Type} (F : Int → Option ByteArray) : Hd ctx γ := hdl cv0.dec (fun a => F a) cv1.enc
theorem h_impl_varText {γ : Type} : HdOk (γ := γ) PP 114 (H_impl_varText impl_varText) := hd_ok ok_impl_varText
noncomputable def E_impl_VarText (impl_in : Int → Int → Int → Option Bool) (impl_varText : Int → Option ByteArray) (n_0 : Int) : Option (ByteArray × Bool) :=
  (impl_in n_0 (0 : Int) (1000000000 : Int)).bind fun r0 =>
  bif (!r0) then
    some ((⟨#[]⟩ : ByteArray), false)
  else
    (impl_varText n_0).bind fun r1 =>
    some (r1, true)
noncomputable def impl_VarText (n_0 : Int) : Option (ByteArray × Bool) := E_impl_VarText impl_in impl_varText n_0
theorem e_impl_VarText (impl_in : Int → Int → Int → Option Bool) (impl_varText : Int → Option ByteArray) : EntryIs0 ctx PP 153 [] [(64, H_impl_in impl_in), (114, H_impl_varText impl_varText)] cv0 cv17 (fun a => E_impl_VarText impl_in impl_varText a) := fun a => by kernel_rfl
theorem ok_impl_VarText : Tells ctx PP 153 cv0 cv17 (fun a => impl_VarText a) := fn_ok0 (hl_cons h_impl_in (hl_cons h_impl_varText hl_nil)) Tryd.func153 (e_impl_VarText impl_in impl_varText)
noncomputable def H_impl_VarText {γ : Type} (F : Int → Option (ByteArray × Bool)) : Hd ctx γ := hdl cv0.dec (fun a => F a) cv17.enc
theorem h_impl_VarText {γ : Type} : HdOk (γ := γ) PP 153 (H_impl_VarText impl_VarText) := hd_ok ok_impl_VarText
noncomputable def E_impl_oneByte  (n_0 : Int) : Option ByteArray :=
  some (ofBytes [(w8 n_0)])
noncomputable def impl_oneByte (n_0 : Int) : Option ByteArray := E_impl_oneByte  n_0
theorem e_impl_oneByte  : EntryIs0 ctx PP 122 [] [] cv0 cv1 (fun a => E_impl_oneByte  a) := fun a => by kernel_rfl
theorem ok_impl_oneByte : Tells ctx PP 122 cv0 cv1 (fun a => impl_oneByte a) := fn_ok0 hl_nil Tryd.func122 (e_impl_oneByte )
noncomputable def H_impl_oneByte {γ : Type} (F : Int → Option ByteArray) : Hd ctx γ := hdl cv0.dec (fun a => F a) cv1.enc
theorem h_impl_oneByte {γ : Type} : HdOk (γ := γ) PP 122 (H_impl_oneByte impl_oneByte) := hd_ok ok_impl_oneByte
noncomputable def E_impl_firstState   : Option (List Int) :=
  some [(1779033703 : Int), (3144134277 : Int), (1013904242 : Int), (2773480762 : Int), (1359893119 : Int), (2600822924 : Int), (528734635 : Int), (1541459225 : Int)]
noncomputable def impl_firstState  : Option (List Int) := E_impl_firstState  
theorem e_impl_firstState  : EntryIs0 ctx PP 134 [] [] cv4 cv19 (fun _ => E_impl_firstState  ) := fun a => by kernel_rfl
theorem ok_impl_firstState : Tells ctx PP 134 cv4 cv19 (fun _ => impl_firstState ) := fn_ok0 hl_nil Tryd.func134 (e_impl_firstState )
noncomputable def H_impl_firstState {γ : Type} (F : Option (List Int)) : Hd ctx γ := hdl cv4.dec (fun _ => F ) cv19.enc
theorem h_impl_firstState {γ : Type} : HdOk (γ := γ) PP 134 (H_impl_firstState impl_firstState) := hd_ok ok_impl_firstState
noncomputable def E_impl_zeros  (n_0 : Int) : Option ByteArray :=
  bif ((((decide (0 ≤ n_0)) && (decide (n_0 ≤ n_0))) && (decide (n_0 ≤ 9223372036854775807))) && (decide ((n_0.toNat * 1) ≤ 140737488355328))) then
  some (ofBytes (List.replicate n_0.toNat (0 : Int)))
  else none
noncomputable def impl_zeros (n_0 : Int) : Option ByteArray := E_impl_zeros  n_0
theorem e_impl_zeros  : EntryIs0 ctx PP 115 [] [] cv0 cv1 (fun a => E_impl_zeros  a) := fun a => by kernel_rfl
theorem ok_impl_zeros : Tells ctx PP 115 cv0 cv1 (fun a => impl_zeros a) := fn_ok0 hl_nil Tryd.func115 (e_impl_zeros )
noncomputable def H_impl_zeros {γ : Type} (F : Int → Option ByteArray) : Hd ctx γ := hdl cv0.dec (fun a => F a) cv1.enc
theorem h_impl_zeros {γ : Type} : HdOk (γ := γ) PP 115 (H_impl_zeros impl_zeros) := hd_ok ok_impl_zeros
noncomputable def E_impl_eightBytes (impl_fourBytes : Int → Option ByteArray) (n_0 : Int) : Option ByteArray :=
  (impl_fourBytes (w32 (Int.fdiv n_0 (2 ^ (Min.min (32 : Int).toNat (IntKind.bits IntKind.i64)))))).bind fun r0 =>
  (impl_fourBytes (w32 n_0)).bind fun r1 =>
  bif (decide ((r0.size + r1.size) ≤ 9223372036854775807)) then
  some (r0 ++ r1)
  else none
noncomputable def impl_eightBytes (n_0 : Int) : Option ByteArray := E_impl_eightBytes impl_fourBytes n_0
theorem e_impl_eightBytes (impl_fourBytes : Int → Option ByteArray) : EntryIs0 ctx PP 168 [] [(123, H_impl_fourBytes impl_fourBytes)] cv0 cv1 (fun a => E_impl_eightBytes impl_fourBytes a) := fun a => by kernel_rfl
theorem ok_impl_eightBytes : Tells ctx PP 168 cv0 cv1 (fun a => impl_eightBytes a) := fn_ok0 (hl_cons h_impl_fourBytes hl_nil) Tryd.func168 (e_impl_eightBytes impl_fourBytes)
noncomputable def H_impl_eightBytes {γ : Type} (F : Int → Option ByteArray) : Hd ctx γ := hdl cv0.dec (fun a => F a) cv1.enc
theorem h_impl_eightBytes {γ : Type} : HdOk (γ := γ) PP 168 (H_impl_eightBytes impl_eightBytes) := hd_ok ok_impl_eightBytes
noncomputable def E_impl_ending (impl_zeros : Int → Option ByteArray) (impl_eightBytes : Int → Option ByteArray) (count_0 : Int) : Option ByteArray :=
  (impl_zeros ((w64 (119 - (count_0.tmod 64))).tmod 64)).bind fun r0 =>
  bif (decide (((⟨#[128]⟩ : ByteArray).size + r0.size) ≤ 9223372036854775807)) then
  (impl_eightBytes (w64 (8 * count_0))).bind fun r1 =>
  bif (decide ((((⟨#[128]⟩ : ByteArray) ++ r0).size + r1.size) ≤ 9223372036854775807)) then
  some (((⟨#[128]⟩ : ByteArray) ++ r0) ++ r1)
  else none
  else none
noncomputable def impl_ending (count_0 : Int) : Option ByteArray := E_impl_ending impl_zeros impl_eightBytes count_0
theorem e_impl_ending (impl_zeros : Int → Option ByteArray) (impl_eightBytes : Int → Option ByteArray) : EntryIs0 ctx PP 135 [] [(115, H_impl_zeros impl_zeros), (168, H_impl_eightBytes impl_eightBytes)] cv0 cv1 (fun a => E_impl_ending impl_zeros impl_eightBytes a) := fun a => by kernel_rfl
theorem ok_impl_ending : Tells ctx PP 135 cv0 cv1 (fun a => impl_ending a) := fn_ok0 (hl_cons h_impl_zeros (hl_cons h_impl_eightBytes hl_nil)) Tryd.func135 (e_impl_ending impl_zeros impl_eightBytes)
noncomputable def H_impl_ending {γ : Type} (F : Int → Option ByteArray) : Hd ctx γ := hdl cv0.dec (fun a => F a) cv1.enc
theorem h_impl_ending {γ : Type} : HdOk (γ := γ) PP 135 (H_impl_ending impl_ending) := hd_ok ok_impl_ending
noncomputable def E_math_bits_RotateLeft32  (x_0 : Int) (k_1 : Int) : Option Int :=
  bif (decide (0 ≤ (wu64 (32 - (wu64 (((BitVec.toNat ((BitVec.ofInt (IntKind.bits IntKind.u64) (wu64 k_1)) &&& (BitVec.ofInt (IntKind.bits IntKind.u64) (31 : Int)))) : Nat) : Int)))))) then
  some (w32 (((BitVec.toNat ((BitVec.ofInt (IntKind.bits IntKind.u32) (w32 (x_0 * (2 ^ (Min.min (wu64 (((BitVec.toNat ((BitVec.ofInt (IntKind.bits IntKind.u64) (wu64 k_1)) &&& (BitVec.ofInt (IntKind.bits IntKind.u64) (31 : Int)))) : Nat) : Int)).toNat (IntKind.bits IntKind.u32)))))) ||| (BitVec.ofInt (IntKind.bits IntKind.u32) (Int.fdiv x_0 (2 ^ (Min.min (wu64 (32 - (wu64 (((BitVec.toNat ((BitVec.ofInt (IntKind.bits IntKind.u64) (wu64 k_1)) &&& (BitVec.ofInt (IntKind.bits IntKind.u64) (31 : Int)))) : Nat) : Int)))).toNat (IntKind.bits IntKind.u32))))))) : Nat) : Int))
  else none
noncomputable def math_bits_RotateLeft32 (x_0 : Int) (k_1 : Int) : Option Int := E_math_bits_RotateLeft32  x_0 k_1
theorem e_math_bits_RotateLeft32  : EntryIs0 ctx PP 182 [] [] cv20 cv9 (fun a => E_math_bits_RotateLeft32  a.1 a.2) := fun a => by kernel_rfl
theorem ok_math_bits_RotateLeft32 : Tells ctx PP 182 cv20 cv9 (fun a => math_bits_RotateLeft32 a.1 a.2) := fn_ok0 hl_nil Tryd.func182 (e_math_bits_RotateLeft32 )
noncomputable def H_math_bits_RotateLeft32 {γ : Type} (F : Int → Int → Option Int) : Hd ctx γ := hdl cv20.dec (fun a => F a.1 a.2) cv9.enc
theorem h_math_bits_RotateLeft32 {γ : Type} : HdOk (γ := γ) PP 182 (H_math_bits_RotateLeft32 math_bits_RotateLeft32) := hd_ok ok_math_bits_RotateLeft32
noncomputable def E_impl_right (math_bits_RotateLeft32 : Int → Int → Option Int) (x_0 : Int) (n_1 : Int) : Option Int :=
  (math_bits_RotateLeft32 x_0 (w64 (0 - n_1))).bind fun r0 =>
  some r0
noncomputable def impl_right (x_0 : Int) (n_1 : Int) : Option Int := E_impl_right math_bits_RotateLeft32 x_0 n_1
theorem e_impl_right (math_bits_RotateLeft32 : Int → Int → Option Int) : EntryIs0 ctx PP 180 [] [(182, H_math_bits_RotateLeft32 math_bits_RotateLeft32)] cv20 cv9 (fun a => E_impl_right math_bits_RotateLeft32 a.1 a.2) := fun a => by kernel_rfl
theorem ok_impl_right : Tells ctx PP 180 cv20 cv9 (fun a => impl_right a.1 a.2) := fn_ok0 (hl_cons h_math_bits_RotateLeft32 hl_nil) Tryd.func180 (e_impl_right math_bits_RotateLeft32)
noncomputable def H_impl_right {γ : Type} (F : Int → Int → Option Int) : Hd ctx γ := hdl cv20.dec (fun a => F a.1 a.2) cv9.enc
theorem h_impl_right {γ : Type} : HdOk (γ := γ) PP 180 (H_impl_right impl_right) := hd_ok ok_impl_right
noncomputable def todo_impl_wordsOf_0 : List Go.Item := [.code (cAt (bodyOf Tryd.f179) [1, 1, 0, 1, 0, 0, 0]), .code (cAt (bodyOf Tryd.f179) [1, 1, 0, 1, 0, 0, 1]), .inLoop (cAt (bodyOf Tryd.f179) [1, 1, 0, 1, 0, 0]), .inBlock 0, .code (cAt (bodyOf Tryd.f179) [1, 1, 1])]
noncomputable def todo_impl_wordsOf_1 : List Go.Item := [.code (cAt (bodyOf Tryd.f179) [1, 1, 0, 1, 0, 0, 1, 1, 0, 0, 1, 1, 0, 0, 0]), .code (cAt (bodyOf Tryd.f179) [1, 1, 0, 1, 0, 0, 1, 1, 0, 0, 1, 1, 0, 0, 1]), .inLoop (cAt (bodyOf Tryd.f179) [1, 1, 0, 1, 0, 0, 1, 1, 0, 0, 1, 1, 0, 0]), .inBlock 2, .inBlock 1, .code (cAt (bodyOf Tryd.f179) [1, 1, 0, 1, 0, 0, 1, 1, 1]), .inLoop (cAt (bodyOf Tryd.f179) [1, 1, 0, 1, 0, 0]), .inBlock 0, .code (cAt (bodyOf Tryd.f179) [1, 1, 1])]
noncomputable def todo_impl_wordsOf_2 : List Go.Item := [.code (cAt (bodyOf Tryd.f179) [1, 1, 1, 0, 1, 0, 0, 0, 0]), .code (cAt (bodyOf Tryd.f179) [1, 1, 1, 0, 1, 0, 0, 0, 1]), .code (cAt (bodyOf Tryd.f179) [1, 1, 1, 0, 1, 0, 0, 1]), .inLoop (cAt (bodyOf Tryd.f179) [1, 1, 1, 0, 1, 0, 0]), .inBlock 4, .code (cAt (bodyOf Tryd.f179) [1, 1, 1, 1])]
inductive St_impl_wordsOf where
  | c0 (block_0 : ByteArray) (v_11 : Int) (v_2r0 : (List Int)) (w_3r0 : (List Int))
  | c1 (block_0 : ByteArray) (i_4 : Int) (v_11 : Int) (v_14 : Int) (v_2r0 : (List Int)) (w_3r0 : (List Int))
  | c2 (t_6 : Int) (v_2r0 : (List Int)) (w_3r0 : (List Int))
noncomputable def at_impl_wordsOf : St_impl_wordsOf → LI
  | .c0 block_0 v_11 v_2r0 w_3r0 => (todo_impl_wordsOf_0, [(0, [.one (.str block_0)]), (2, [.one (.ptr 128 0)]), (3, [.one (.ptr 192 0)]), (11, [.one (.int .i64 v_11)])], [(128, .ar 138 v_2r0), (192, .ar 138 w_3r0)])
  | .c1 block_0 i_4 v_11 v_14 v_2r0 w_3r0 => (todo_impl_wordsOf_1, [(0, [.one (.str block_0)]), (2, [.one (.ptr 128 0)]), (3, [.one (.ptr 192 0)]), (4, [.one (.int .i64 i_4)]), (11, [.one (.int .i64 v_11)]), (14, [.one (.int .i64 v_14)])], [(128, .ar 138 v_2r0), (192, .ar 138 w_3r0)])
  | .c2 t_6 v_2r0 w_3r0 => (todo_impl_wordsOf_2, [(2, [.one (.ptr 128 0)]), (3, [.one (.ptr 192 0)]), (6, [.one (.int .i64 t_6)])], [(128, .ar 138 v_2r0), (192, .ar 138 w_3r0)])
noncomputable def E_impl_wordsOf (impl_right : Int → Int → Option Int) (k : St_impl_wordsOf → Option (List Int)) (block_0 : ByteArray) : Option (List Int) :=
  k (.c0 block_0 (0 : Int) (List.replicate 64 (0 : Int)) (List.replicate 64 (0 : Int)))
noncomputable def B_impl_wordsOf (impl_right : Int → Int → Option Int) (k : St_impl_wordsOf → Option (List Int)) : St_impl_wordsOf → Option (List Int)
  | .c0 block_0 v_11 v_2r0 w_3r0 =>
    bif (decide (v_11 < 16)) then
      k (.c1 block_0 v_11 v_11 (0 : Int) v_2r0 w_3r0)
    else
      k (.c2 (16 : Int) v_2r0 w_3r0)
  | .c1 block_0 i_4 v_11 v_14 v_2r0 w_3r0 =>
    bif (decide (v_14 < 4)) then
      bif (Nat.beq 64 w_3r0.length) then
      bif ((decide (0 ≤ i_4)) && (decide (i_4 < (w_3r0.length : Int)))) then
      bif ((decide (0 ≤ (w64 ((w64 (4 * i_4)) + v_14)))) && (decide ((w64 ((w64 (4 * i_4)) + v_14)) < (block_0.size : Int)))) then
      bif (Nat.beq 64 w_3r0.length) then
      bif ((decide (0 ≤ i_4)) && (decide (i_4 < (w_3r0.length : Int)))) then
      k (.c1 block_0 i_4 v_11 (w64 (v_14 + 1)) v_2r0 (w_3r0.set i_4.toNat (w32 (((BitVec.toNat ((BitVec.ofInt (IntKind.bits IntKind.u32) (w32 ((w_3r0.getD i_4.toNat 0) * (2 ^ (Min.min (8 : Int).toNat (IntKind.bits IntKind.u32)))))) ||| (BitVec.ofInt (IntKind.bits IntKind.u32) (w32 (bt block_0 (w64 ((w64 (4 * i_4)) + v_14))))))) : Nat) : Int))))
      else none
      else none
      else none
      else none
      else none
    else
      k (.c0 block_0 (w64 (v_11 + 1)) v_2r0 w_3r0)
  | .c2 t_6 v_2r0 w_3r0 =>
    bif (decide (t_6 < 64)) then
      bif (Nat.beq 64 w_3r0.length) then
      bif ((decide (0 ≤ (w64 (t_6 - 15)))) && (decide ((w64 (t_6 - 15)) < (w_3r0.length : Int)))) then
      bif (Nat.beq 64 w_3r0.length) then
      bif ((decide (0 ≤ (w64 (t_6 - 2)))) && (decide ((w64 (t_6 - 2)) < (w_3r0.length : Int)))) then
      (impl_right (w_3r0.getD (w64 (t_6 - 15)).toNat 0) (7 : Int)).bind fun r0 =>
      (impl_right (w_3r0.getD (w64 (t_6 - 15)).toNat 0) (18 : Int)).bind fun r1 =>
      (impl_right (w_3r0.getD (w64 (t_6 - 2)).toNat 0) (17 : Int)).bind fun r2 =>
      (impl_right (w_3r0.getD (w64 (t_6 - 2)).toNat 0) (19 : Int)).bind fun r3 =>
      bif (Nat.beq 64 w_3r0.length) then
      bif ((decide (0 ≤ (w64 (t_6 - 7)))) && (decide ((w64 (t_6 - 7)) < (w_3r0.length : Int)))) then
      bif (Nat.beq 64 w_3r0.length) then
      bif ((decide (0 ≤ (w64 (t_6 - 16)))) && (decide ((w64 (t_6 - 16)) < (w_3r0.length : Int)))) then
      bif (Nat.beq 64 w_3r0.length) then
      bif ((decide (0 ≤ t_6)) && (decide (t_6 < (w_3r0.length : Int)))) then
      k (.c2 (w64 (t_6 + 1)) v_2r0 (w_3r0.set t_6.toNat (w32 ((w32 ((w32 ((w32 (((BitVec.toNat ((BitVec.ofInt (IntKind.bits IntKind.u32) (w32 (((BitVec.toNat ((BitVec.ofInt (IntKind.bits IntKind.u32) r2) ^^^ (BitVec.ofInt (IntKind.bits IntKind.u32) r3))) : Nat) : Int))) ^^^ (BitVec.ofInt (IntKind.bits IntKind.u32) (Int.fdiv (w_3r0.getD (w64 (t_6 - 2)).toNat 0) (2 ^ (Min.min (10 : Int).toNat (IntKind.bits IntKind.u32))))))) : Nat) : Int)) + (w_3r0.getD (w64 (t_6 - 7)).toNat 0))) + (w32 (((BitVec.toNat ((BitVec.ofInt (IntKind.bits IntKind.u32) (w32 (((BitVec.toNat ((BitVec.ofInt (IntKind.bits IntKind.u32) r0) ^^^ (BitVec.ofInt (IntKind.bits IntKind.u32) r1))) : Nat) : Int))) ^^^ (BitVec.ofInt (IntKind.bits IntKind.u32) (Int.fdiv (w_3r0.getD (w64 (t_6 - 15)).toNat 0) (2 ^ (Min.min (3 : Int).toNat (IntKind.bits IntKind.u32))))))) : Nat) : Int)))) + (w_3r0.getD (w64 (t_6 - 16)).toNat 0)))))
      else none
      else none
      else none
      else none
      else none
      else none
      else none
      else none
      else none
      else none
    else
      bif (Nat.beq 64 w_3r0.length) then
      bif ((Nat.beq w_3r0.length v_2r0.length) && (Nat.beq 64 w_3r0.length)) then
      bif ((Nat.beq 64 w_3r0.length) && true) then
      some w_3r0
      else none
      else none
      else none
noncomputable def L_impl_wordsOf : Nat → St_impl_wordsOf → Option (List Int)
  | 0, _ => none
  | m + 1, s => B_impl_wordsOf impl_right (L_impl_wordsOf m) s
noncomputable def impl_wordsOf (block_0 : ByteArray) : Option (List Int) := E_impl_wordsOf impl_right (L_impl_wordsOf gas) block_0
theorem e_impl_wordsOf (impl_right : Int → Int → Option Int) : EntryIs ctx PP 179 [] [(180, H_impl_right impl_right)] cv1 cv19 at_impl_wordsOf (fun k a => E_impl_wordsOf impl_right k a) := fun stop a => by kernel_rfl
theorem b_impl_wordsOf (impl_right : Int → Int → Option Int) : CutIs ctx PP 179 Tryd.f179 [] [(180, H_impl_right impl_right)] cv19 at_impl_wordsOf (B_impl_wordsOf impl_right) := fun stop s => by cases s <;> kernel_rfl
theorem i_impl_wordsOf : ∀ s s', at_impl_wordsOf s = at_impl_wordsOf s' → s = s' := by
  intro s s' h
  cases s with
  | c0 v0 v1 v2 v3 => cases s' with
    | c0 w0 w1 w2 w3 => cases h; rfl
    | c1 w0 w1 w2 w3 w4 w5 => exact (region_ne 3 6 h (by kernel_rfl) (by kernel_rfl) rfl).elim
    | c2 w0 w1 w2 => exact (region_ne 3 12 h (by kernel_rfl) (by kernel_rfl) rfl).elim
  | c1 v0 v1 v2 v3 v4 v5 => cases s' with
    | c0 w0 w1 w2 w3 => exact (region_ne 6 3 h (by kernel_rfl) (by kernel_rfl) rfl).elim
    | c1 w0 w1 w2 w3 w4 w5 => cases h; rfl
    | c2 w0 w1 w2 => exact (region_ne 6 12 h (by kernel_rfl) (by kernel_rfl) rfl).elim
  | c2 v0 v1 v2 => cases s' with
    | c0 w0 w1 w2 w3 => exact (region_ne 12 3 h (by kernel_rfl) (by kernel_rfl) rfl).elim
    | c1 w0 w1 w2 w3 w4 w5 => exact (region_ne 12 6 h (by kernel_rfl) (by kernel_rfl) rfl).elim
    | c2 w0 w1 w2 => cases h; rfl
theorem ok_impl_wordsOf : Tells ctx PP 179 cv1 cv19 (fun a => impl_wordsOf a) := fn_ok (hl_cons h_impl_right hl_nil) Tryd.func179 i_impl_wordsOf (fun _ => rfl) (fun _ _ => rfl) (b_impl_wordsOf impl_right) (e_impl_wordsOf impl_right) gas
noncomputable def H_impl_wordsOf {γ : Type} (F : ByteArray → Option (List Int)) : Hd ctx γ := hdl cv1.dec (fun a => F a) cv19.enc
theorem h_impl_wordsOf {γ : Type} : HdOk (γ := γ) PP 179 (H_impl_wordsOf impl_wordsOf) := hd_ok ok_impl_wordsOf
noncomputable def todo_impl_oneBlock_0 : List Go.Item := [.code (cAt (bodyOf Tryd.f167) [1, 1, 1, 0, 1, 0, 0, 0]), .code (cAt (bodyOf Tryd.f167) [1, 1, 1, 0, 1, 0, 0, 1]), .inLoop (cAt (bodyOf Tryd.f167) [1, 1, 1, 0, 1, 0, 0]), .inBlock 0, .code (cAt (bodyOf Tryd.f167) [1, 1, 1, 1])]
noncomputable def todo_impl_oneBlock_1 : List Go.Item := [.code (cAt (bodyOf Tryd.f167) [1, 1, 1, 1, 1, 0, 1, 0, 0, 0]), .code (cAt (bodyOf Tryd.f167) [1, 1, 1, 1, 1, 0, 1, 0, 0, 1]), .inLoop (cAt (bodyOf Tryd.f167) [1, 1, 1, 1, 1, 0, 1, 0, 0]), .inBlock 2, .code (cAt (bodyOf Tryd.f167) [1, 1, 1, 1, 1, 1])]
inductive St_impl_oneBlock where
  | c0 (a_6 : Int) (b_7 : Int) (c_8 : Int) (d_9 : Int) (e_10 : Int) (f_11 : Int) (g_12 : Int) (h_13 : Int) (v_37 : Int) (state_2r0 : (List Int)) (v_4r0 : (List Int)) (w_5r0 : (List Int))
  | c1 (v_109 : Int) (state_2r0 : (List Int)) (v_4r0 : (List Int)) (out_17r0 : (List Int))
noncomputable def at_impl_oneBlock : St_impl_oneBlock → LI
  | .c0 a_6 b_7 c_8 d_9 e_10 f_11 g_12 h_13 v_37 state_2r0 v_4r0 w_5r0 => (todo_impl_oneBlock_0, [(2, [.one (.ptr 128 0)]), (4, [.one (.ptr 256 0)]), (5, [.one (.ptr 320 0)]), (6, [.one (.int .u32 a_6)]), (7, [.one (.int .u32 b_7)]), (8, [.one (.int .u32 c_8)]), (9, [.one (.int .u32 d_9)]), (10, [.one (.int .u32 e_10)]), (11, [.one (.int .u32 f_11)]), (12, [.one (.int .u32 g_12)]), (13, [.one (.int .u32 h_13)]), (37, [.one (.int .i64 v_37)])], [(128, .ar 138 state_2r0), (256, .ar 138 v_4r0), (320, .ar 138 w_5r0)])
  | .c1 v_109 state_2r0 v_4r0 out_17r0 => (todo_impl_oneBlock_1, [(2, [.one (.ptr 128 0)]), (4, [.one (.ptr 256 0)]), (17, [.one (.ptr 1088 0)]), (109, [.one (.int .i64 v_109)])], [(128, .ar 138 state_2r0), (256, .ar 138 v_4r0), (1088, .ar 138 out_17r0)])
noncomputable def E_impl_oneBlock (impl_wordsOf : ByteArray → Option (List Int)) (impl_right : Int → Int → Option Int) (k : St_impl_oneBlock → Option (List Int)) (state_0 : (List Int)) (block_1 : ByteArray) : Option (List Int) :=
  (impl_wordsOf block_1).bind fun r0 =>
  bif ((Nat.beq r0.length (List.replicate 64 (0 : Int)).length) && (Nat.beq 64 r0.length)) then
  bif (Nat.beq 8 state_0.length) then
  bif ((decide ((0 : Int) ≤ (0 : Int))) && (decide (0 < (state_0.length : Int)))) then
  bif (Nat.beq 8 state_0.length) then
  bif ((decide ((0 : Int) ≤ (1 : Int))) && (decide (1 < (state_0.length : Int)))) then
  bif (Nat.beq 8 state_0.length) then
  bif ((decide ((0 : Int) ≤ (2 : Int))) && (decide (2 < (state_0.length : Int)))) then
  bif (Nat.beq 8 state_0.length) then
  bif ((decide ((0 : Int) ≤ (3 : Int))) && (decide (3 < (state_0.length : Int)))) then
  bif (Nat.beq 8 state_0.length) then
  bif ((decide ((0 : Int) ≤ (4 : Int))) && (decide (4 < (state_0.length : Int)))) then
  bif (Nat.beq 8 state_0.length) then
  bif ((decide ((0 : Int) ≤ (5 : Int))) && (decide (5 < (state_0.length : Int)))) then
  bif (Nat.beq 8 state_0.length) then
  bif ((decide ((0 : Int) ≤ (6 : Int))) && (decide (6 < (state_0.length : Int)))) then
  bif (Nat.beq 8 state_0.length) then
  bif ((decide ((0 : Int) ≤ (7 : Int))) && (decide (7 < (state_0.length : Int)))) then
  k (.c0 (state_0.getD (0 : Int).toNat 0) (state_0.getD (1 : Int).toNat 0) (state_0.getD (2 : Int).toNat 0) (state_0.getD (3 : Int).toNat 0) (state_0.getD (4 : Int).toNat 0) (state_0.getD (5 : Int).toNat 0) (state_0.getD (6 : Int).toNat 0) (state_0.getD (7 : Int).toNat 0) (0 : Int) state_0 [(0 : Int), (0 : Int), (0 : Int), (0 : Int), (0 : Int), (0 : Int), (0 : Int), (0 : Int)] r0)
  else none
  else none
  else none
  else none
  else none
  else none
  else none
  else none
  else none
  else none
  else none
  else none
  else none
  else none
  else none
  else none
  else none
noncomputable def B_impl_oneBlock (impl_wordsOf : ByteArray → Option (List Int)) (impl_right : Int → Int → Option Int) (k : St_impl_oneBlock → Option (List Int)) : St_impl_oneBlock → Option (List Int)
  | .c0 a_6 b_7 c_8 d_9 e_10 f_11 g_12 h_13 v_37 state_2r0 v_4r0 w_5r0 =>
    bif (decide (v_37 < 64)) then
      (impl_right e_10 (6 : Int)).bind fun r0 =>
      (impl_right e_10 (11 : Int)).bind fun r1 =>
      (impl_right e_10 (25 : Int)).bind fun r2 =>
      bif ((decide (0 ≤ v_37)) && (decide (v_37 < ((64 : Nat) : Int)))) then
      bif (Nat.blt v_37.toNat 64) then
      bif (Nat.beq 64 w_5r0.length) then
      bif ((decide (0 ≤ v_37)) && (decide (v_37 < (w_5r0.length : Int)))) then
      (impl_right a_6 (2 : Int)).bind fun r3 =>
      (impl_right a_6 (13 : Int)).bind fun r4 =>
      (impl_right a_6 (22 : Int)).bind fun r5 =>
      k (.c0 (w32 ((w32 ((w32 ((w32 ((w32 (h_13 + (w32 (((BitVec.toNat ((BitVec.ofInt (IntKind.bits IntKind.u32) (w32 (((BitVec.toNat ((BitVec.ofInt (IntKind.bits IntKind.u32) r0) ^^^ (BitVec.ofInt (IntKind.bits IntKind.u32) r1))) : Nat) : Int))) ^^^ (BitVec.ofInt (IntKind.bits IntKind.u32) r2))) : Nat) : Int)))) + (w32 (((BitVec.toNat ((BitVec.ofInt (IntKind.bits IntKind.u32) (w32 (((BitVec.toNat ((BitVec.ofInt (IntKind.bits IntKind.u32) e_10) &&& (BitVec.ofInt (IntKind.bits IntKind.u32) f_11))) : Nat) : Int))) ^^^ (BitVec.ofInt (IntKind.bits IntKind.u32) (w32 (((BitVec.toNat ((BitVec.ofInt (IntKind.bits IntKind.u32) (w32 (((BitVec.toNat ((BitVec.ofInt (IntKind.bits IntKind.u32) (ite ((IntKind.signed IntKind.u32) = true) (-(1 : Int)) (IntKind.max IntKind.u32))) ^^^ (BitVec.ofInt (IntKind.bits IntKind.u32) e_10))) : Nat) : Int))) &&& (BitVec.ofInt (IntKind.bits IntKind.u32) g_12))) : Nat) : Int))))) : Nat) : Int)))) + ([(1116352408 : Int), (1899447441 : Int), (3049323471 : Int), (3921009573 : Int), (961987163 : Int), (1508970993 : Int), (2453635748 : Int), (2870763221 : Int), (3624381080 : Int), (310598401 : Int), (607225278 : Int), (1426881987 : Int), (1925078388 : Int), (2162078206 : Int), (2614888103 : Int), (3248222580 : Int), (3835390401 : Int), (4022224774 : Int), (264347078 : Int), (604807628 : Int), (770255983 : Int), (1249150122 : Int), (1555081692 : Int), (1996064986 : Int), (2554220882 : Int), (2821834349 : Int), (2952996808 : Int), (3210313671 : Int), (3336571891 : Int), (3584528711 : Int), (113926993 : Int), (338241895 : Int), (666307205 : Int), (773529912 : Int), (1294757372 : Int), (1396182291 : Int), (1695183700 : Int), (1986661051 : Int), (2177026350 : Int), (2456956037 : Int), (2730485921 : Int), (2820302411 : Int), (3259730800 : Int), (3345764771 : Int), (3516065817 : Int), (3600352804 : Int), (4094571909 : Int), (275423344 : Int), (430227734 : Int), (506948616 : Int), (659060556 : Int), (883997877 : Int), (958139571 : Int), (1322822218 : Int), (1537002063 : Int), (1747873779 : Int), (1955562222 : Int), (2024104815 : Int), (2227730452 : Int), (2361852424 : Int), (2428436474 : Int), (2756734187 : Int), (3204031479 : Int), (3329325298 : Int)].getD v_37.toNat 0))) + (w_5r0.getD v_37.toNat 0))) + (w32 ((w32 (((BitVec.toNat ((BitVec.ofInt (IntKind.bits IntKind.u32) (w32 (((BitVec.toNat ((BitVec.ofInt (IntKind.bits IntKind.u32) r3) ^^^ (BitVec.ofInt (IntKind.bits IntKind.u32) r4))) : Nat) : Int))) ^^^ (BitVec.ofInt (IntKind.bits IntKind.u32) r5))) : Nat) : Int)) + (w32 (((BitVec.toNat ((BitVec.ofInt (IntKind.bits IntKind.u32) (w32 (((BitVec.toNat ((BitVec.ofInt (IntKind.bits IntKind.u32) (w32 (((BitVec.toNat ((BitVec.ofInt (IntKind.bits IntKind.u32) a_6) &&& (BitVec.ofInt (IntKind.bits IntKind.u32) b_7))) : Nat) : Int))) ^^^ (BitVec.ofInt (IntKind.bits IntKind.u32) (w32 (((BitVec.toNat ((BitVec.ofInt (IntKind.bits IntKind.u32) a_6) &&& (BitVec.ofInt (IntKind.bits IntKind.u32) c_8))) : Nat) : Int))))) : Nat) : Int))) ^^^ (BitVec.ofInt (IntKind.bits IntKind.u32) (w32 (((BitVec.toNat ((BitVec.ofInt (IntKind.bits IntKind.u32) b_7) &&& (BitVec.ofInt (IntKind.bits IntKind.u32) c_8))) : Nat) : Int))))) : Nat) : Int)))))) a_6 b_7 c_8 (w32 (d_9 + (w32 ((w32 ((w32 ((w32 (h_13 + (w32 (((BitVec.toNat ((BitVec.ofInt (IntKind.bits IntKind.u32) (w32 (((BitVec.toNat ((BitVec.ofInt (IntKind.bits IntKind.u32) r0) ^^^ (BitVec.ofInt (IntKind.bits IntKind.u32) r1))) : Nat) : Int))) ^^^ (BitVec.ofInt (IntKind.bits IntKind.u32) r2))) : Nat) : Int)))) + (w32 (((BitVec.toNat ((BitVec.ofInt (IntKind.bits IntKind.u32) (w32 (((BitVec.toNat ((BitVec.ofInt (IntKind.bits IntKind.u32) e_10) &&& (BitVec.ofInt (IntKind.bits IntKind.u32) f_11))) : Nat) : Int))) ^^^ (BitVec.ofInt (IntKind.bits IntKind.u32) (w32 (((BitVec.toNat ((BitVec.ofInt (IntKind.bits IntKind.u32) (w32 (((BitVec.toNat ((BitVec.ofInt (IntKind.bits IntKind.u32) (ite ((IntKind.signed IntKind.u32) = true) (-(1 : Int)) (IntKind.max IntKind.u32))) ^^^ (BitVec.ofInt (IntKind.bits IntKind.u32) e_10))) : Nat) : Int))) &&& (BitVec.ofInt (IntKind.bits IntKind.u32) g_12))) : Nat) : Int))))) : Nat) : Int)))) + ([(1116352408 : Int), (1899447441 : Int), (3049323471 : Int), (3921009573 : Int), (961987163 : Int), (1508970993 : Int), (2453635748 : Int), (2870763221 : Int), (3624381080 : Int), (310598401 : Int), (607225278 : Int), (1426881987 : Int), (1925078388 : Int), (2162078206 : Int), (2614888103 : Int), (3248222580 : Int), (3835390401 : Int), (4022224774 : Int), (264347078 : Int), (604807628 : Int), (770255983 : Int), (1249150122 : Int), (1555081692 : Int), (1996064986 : Int), (2554220882 : Int), (2821834349 : Int), (2952996808 : Int), (3210313671 : Int), (3336571891 : Int), (3584528711 : Int), (113926993 : Int), (338241895 : Int), (666307205 : Int), (773529912 : Int), (1294757372 : Int), (1396182291 : Int), (1695183700 : Int), (1986661051 : Int), (2177026350 : Int), (2456956037 : Int), (2730485921 : Int), (2820302411 : Int), (3259730800 : Int), (3345764771 : Int), (3516065817 : Int), (3600352804 : Int), (4094571909 : Int), (275423344 : Int), (430227734 : Int), (506948616 : Int), (659060556 : Int), (883997877 : Int), (958139571 : Int), (1322822218 : Int), (1537002063 : Int), (1747873779 : Int), (1955562222 : Int), (2024104815 : Int), (2227730452 : Int), (2361852424 : Int), (2428436474 : Int), (2756734187 : Int), (3204031479 : Int), (3329325298 : Int)].getD v_37.toNat 0))) + (w_5r0.getD v_37.toNat 0))))) e_10 f_11 g_12 (w64 (v_37 + 1)) state_2r0 v_4r0 w_5r0)
      else none
      else none
      else none
      else none
    else
      k (.c1 (0 : Int) state_2r0 v_4r0 [a_6, b_7, c_8, d_9, e_10, f_11, g_12, h_13])
  | .c1 v_109 state_2r0 v_4r0 out_17r0 =>
    bif (decide (v_109 < 8)) then
      bif (Nat.beq 8 out_17r0.length) then
      bif ((decide (0 ≤ v_109)) && (decide (v_109 < (out_17r0.length : Int)))) then
      bif (Nat.beq 8 state_2r0.length) then
      bif ((decide (0 ≤ v_109)) && (decide (v_109 < (state_2r0.length : Int)))) then
      bif (Nat.beq 8 out_17r0.length) then
      bif ((decide (0 ≤ v_109)) && (decide (v_109 < (out_17r0.length : Int)))) then
      k (.c1 (w64 (v_109 + 1)) state_2r0 v_4r0 (out_17r0.set v_109.toNat (w32 ((out_17r0.getD v_109.toNat 0) + (state_2r0.getD v_109.toNat 0)))))
      else none
      else none
      else none
      else none
      else none
      else none
    else
      bif (Nat.beq 8 out_17r0.length) then
      bif ((Nat.beq out_17r0.length v_4r0.length) && (Nat.beq 8 out_17r0.length)) then
      bif ((Nat.beq 8 out_17r0.length) && true) then
      some out_17r0
      else none
      else none
      else none
noncomputable def L_impl_oneBlock : Nat → St_impl_oneBlock → Option (List Int)
  | 0, _ => none
  | m + 1, s => B_impl_oneBlock impl_wordsOf impl_right (L_impl_oneBlock m) s
noncomputable def impl_oneBlock (state_0 : (List Int)) (block_1 : ByteArray) : Option (List Int) := E_impl_oneBlock impl_wordsOf impl_right (L_impl_oneBlock gas) state_0 block_1
theorem e_impl_oneBlock (impl_wordsOf : ByteArray → Option (List Int)) (impl_right : Int → Int → Option Int) : EntryIs ctx PP 167 [] [(179, H_impl_wordsOf impl_wordsOf), (180, H_impl_right impl_right)] cv21 cv19 at_impl_oneBlock (fun k a => E_impl_oneBlock impl_wordsOf impl_right k a.1 a.2) := fun stop a => by kernel_rfl
theorem b_impl_oneBlock (impl_wordsOf : ByteArray → Option (List Int)) (impl_right : Int → Int → Option Int) : CutIs ctx PP 167 Tryd.f167 [] [(179, H_impl_wordsOf impl_wordsOf), (180, H_impl_right impl_right)] cv19 at_impl_oneBlock (B_impl_oneBlock impl_wordsOf impl_right) := fun stop s => by cases s <;> kernel_rfl
theorem i_impl_oneBlock : ∀ s s', at_impl_oneBlock s = at_impl_oneBlock s' → s = s' := by
  intro s s' h
  cases s with
  | c0 v0 v1 v2 v3 v4 v5 v6 v7 v8 v9 v10 v11 => cases s' with
    | c0 w0 w1 w2 w3 w4 w5 w6 w7 w8 w9 w10 w11 => cases h; rfl
    | c1 w0 w1 w2 w3 => exact (region_ne 4 13 h (by kernel_rfl) (by kernel_rfl) rfl).elim
  | c1 v0 v1 v2 v3 => cases s' with
    | c0 w0 w1 w2 w3 w4 w5 w6 w7 w8 w9 w10 w11 => exact (region_ne 13 4 h (by kernel_rfl) (by kernel_rfl) rfl).elim
    | c1 w0 w1 w2 w3 => cases h; rfl
theorem ok_impl_oneBlock : Tells ctx PP 167 cv21 cv19 (fun a => impl_oneBlock a.1 a.2) := fn_ok (hl_cons h_impl_wordsOf (hl_cons h_impl_right hl_nil)) Tryd.func167 i_impl_oneBlock (fun _ => rfl) (fun _ _ => rfl) (b_impl_oneBlock impl_wordsOf impl_right) (e_impl_oneBlock impl_wordsOf impl_right) gas
noncomputable def H_impl_oneBlock {γ : Type} (F : (List Int) → ByteArray → Option (List Int)) : Hd ctx γ := hdl cv21.dec (fun a => F a.1 a.2) cv19.enc
theorem h_impl_oneBlock {γ : Type} : HdOk (γ := γ) PP 167 (H_impl_oneBlock impl_oneBlock) := hd_ok ok_impl_oneBlock
noncomputable def todo_impl_blocks_0 : List Go.Item := [.code (cAt (bodyOf Tryd.f133) [1, 0, 0, 0, 0, 0]), .code (cAt (bodyOf Tryd.f133) [1, 0, 0, 0, 0, 1]), .code (cAt (bodyOf Tryd.f133) [1, 0, 0, 0, 1]), .inLoop (cAt (bodyOf Tryd.f133) [1, 0, 0, 0]), .inBlock 0, .code (cAt (bodyOf Tryd.f133) [1, 1])]
inductive St_impl_blocks where
  | c0 (s_1 : ByteArray) (state_2r0 : (List Int)) (v_4r0 : (List Int))
noncomputable def at_impl_blocks : St_impl_blocks → LI
  | .c0 s_1 state_2r0 v_4r0 => (todo_impl_blocks_0, [(1, [.one (.str s_1)]), (2, [.one (.ptr 128 0)]), (4, [.one (.ptr 256 0)])], [(128, .ar 138 state_2r0), (256, .ar 138 v_4r0)])
noncomputable def E_impl_blocks (impl_oneBlock : (List Int) → ByteArray → Option (List Int)) (k : St_impl_blocks → Option ((List Int) × ByteArray)) (state_0 : (List Int)) (s_1 : ByteArray) : Option ((List Int) × ByteArray) :=
  k (.c0 s_1 state_0 [(0 : Int), (0 : Int), (0 : Int), (0 : Int), (0 : Int), (0 : Int), (0 : Int), (0 : Int)])
noncomputable def B_impl_blocks (impl_oneBlock : (List Int) → ByteArray → Option (List Int)) (k : St_impl_blocks → Option ((List Int) × ByteArray)) : St_impl_blocks → Option ((List Int) × ByteArray)
  | .c0 s_1 state_2r0 v_4r0 =>
    bif (decide ((s_1.size : Int) ≥ 64)) then
      bif (Nat.beq 8 state_2r0.length) then
      bif ((decide ((0 : Int) ≤ (64 : Int))) && (decide (64 ≤ (s_1.size : Int)))) then
      (impl_oneBlock state_2r0 (s_1.extract 0 (64 : Int).toNat)).bind fun r0 =>
      bif ((Nat.beq r0.length state_2r0.length) && (Nat.beq 8 r0.length)) then
      bif ((decide ((0 : Int) ≤ (64 : Int))) && (decide (64 ≤ (s_1.size : Int)))) then
      k (.c0 (s_1.extract (64 : Int).toNat s_1.size) r0 v_4r0)
      else none
      else none
      else none
      else none
    else
      bif (Nat.beq 8 state_2r0.length) then
      bif ((Nat.beq state_2r0.length v_4r0.length) && (Nat.beq 8 state_2r0.length)) then
      bif ((Nat.beq 8 state_2r0.length) && true) then
      some (state_2r0, s_1)
      else none
      else none
      else none
noncomputable def L_impl_blocks : Nat → St_impl_blocks → Option ((List Int) × ByteArray)
  | 0, _ => none
  | m + 1, s => B_impl_blocks impl_oneBlock (L_impl_blocks m) s
noncomputable def impl_blocks (state_0 : (List Int)) (s_1 : ByteArray) : Option ((List Int) × ByteArray) := E_impl_blocks impl_oneBlock (L_impl_blocks gas) state_0 s_1
theorem e_impl_blocks (impl_oneBlock : (List Int) → ByteArray → Option (List Int)) : EntryIs ctx PP 133 [] [(167, H_impl_oneBlock impl_oneBlock)] cv21 cv21 at_impl_blocks (fun k a => E_impl_blocks impl_oneBlock k a.1 a.2) := fun stop a => by kernel_rfl
theorem b_impl_blocks (impl_oneBlock : (List Int) → ByteArray → Option (List Int)) : CutIs ctx PP 133 Tryd.f133 [] [(167, H_impl_oneBlock impl_oneBlock)] cv21 at_impl_blocks (B_impl_blocks impl_oneBlock) := fun stop s => by cases s <;> kernel_rfl
theorem i_impl_blocks : ∀ s s', at_impl_blocks s = at_impl_blocks s' → s = s' := by
  intro s s' h
  cases s with
  | c0 v0 v1 v2 => cases s' with
    | c0 w0 w1 w2 => cases h; rfl
theorem ok_impl_blocks : Tells ctx PP 133 cv21 cv21 (fun a => impl_blocks a.1 a.2) := fn_ok (hl_cons h_impl_oneBlock hl_nil) Tryd.func133 i_impl_blocks (fun _ => rfl) (fun _ _ => rfl) (b_impl_blocks impl_oneBlock) (e_impl_blocks impl_oneBlock) gas
noncomputable def H_impl_blocks {γ : Type} (F : (List Int) → ByteArray → Option ((List Int) × ByteArray)) : Hd ctx γ := hdl cv21.dec (fun a => F a.1 a.2) cv21.enc
theorem h_impl_blocks {γ : Type} : HdOk (γ := γ) PP 133 (H_impl_blocks impl_blocks) := hd_ok ok_impl_blocks
noncomputable def todo_impl_stateText_0 : List Go.Item := [.code (cAt (bodyOf Tryd.f136) [1, 1, 0, 1, 0, 0, 0]), .code (cAt (bodyOf Tryd.f136) [1, 1, 0, 1, 0, 0, 1]), .inLoop (cAt (bodyOf Tryd.f136) [1, 1, 0, 1, 0, 0]), .inBlock 0, .code (cAt (bodyOf Tryd.f136) [1, 1, 1])]
inductive St_impl_stateText where
  | c0 (out_3 : ByteArray) (v_6 : (List Int)) (v_7 : Int)
noncomputable def at_impl_stateText : St_impl_stateText → LI
  | .c0 out_3 v_6 v_7 => (todo_impl_stateText_0, [(3, [.one (.str out_3)]), (6, [.arr 138 v_6]), (7, [.one (.int .i64 v_7)])], [])
noncomputable def E_impl_stateText (impl_fourBytes : Int → Option ByteArray) (k : St_impl_stateText → Option ByteArray) (state_0 : (List Int)) : Option ByteArray :=
  bif (Nat.beq 8 state_0.length) then
  k (.c0 (⟨#[]⟩ : ByteArray) state_0 (0 : Int))
  else none
noncomputable def B_impl_stateText (impl_fourBytes : Int → Option ByteArray) (k : St_impl_stateText → Option ByteArray) : St_impl_stateText → Option ByteArray
  | .c0 out_3 v_6 v_7 =>
    bif (decide (v_7 < 8)) then
      bif (Nat.beq 8 v_6.length) then
      bif ((decide (0 ≤ v_7)) && (decide (v_7 < (v_6.length : Int)))) then
      (impl_fourBytes (v_6.getD v_7.toNat 0)).bind fun r0 =>
      bif (decide ((out_3.size + r0.size) ≤ 9223372036854775807)) then
      k (.c0 (out_3 ++ r0) v_6 (w64 (v_7 + 1)))
      else none
      else none
      else none
    else
      some out_3
noncomputable def L_impl_stateText : Nat → St_impl_stateText → Option ByteArray
  | 0, _ => none
  | m + 1, s => B_impl_stateText impl_fourBytes (L_impl_stateText m) s
noncomputable def impl_stateText (state_0 : (List Int)) : Option ByteArray := E_impl_stateText impl_fourBytes (L_impl_stateText gas) state_0
theorem e_impl_stateText (impl_fourBytes : Int → Option ByteArray) : EntryIs ctx PP 136 [] [(123, H_impl_fourBytes impl_fourBytes)] cv19 cv1 at_impl_stateText (fun k a => E_impl_stateText impl_fourBytes k a) := fun stop a => by kernel_rfl
theorem b_impl_stateText (impl_fourBytes : Int → Option ByteArray) : CutIs ctx PP 136 Tryd.f136 [] [(123, H_impl_fourBytes impl_fourBytes)] cv1 at_impl_stateText (B_impl_stateText impl_fourBytes) := fun stop s => by cases s <;> kernel_rfl
theorem i_impl_stateText : ∀ s s', at_impl_stateText s = at_impl_stateText s' → s = s' := by
  intro s s' h
  cases s with
  | c0 v0 v1 v2 => cases s' with
    | c0 w0 w1 w2 => cases h; rfl
theorem ok_impl_stateText : Tells ctx PP 136 cv19 cv1 (fun a => impl_stateText a) := fn_ok (hl_cons h_impl_fourBytes hl_nil) Tryd.func136 i_impl_stateText (fun _ => rfl) (fun _ _ => rfl) (b_impl_stateText impl_fourBytes) (e_impl_stateText impl_fourBytes) gas
noncomputable def H_impl_stateText {γ : Type} (F : (List Int) → Option ByteArray) : Hd ctx γ := hdl cv19.dec (fun a => F a) cv1.enc
theorem h_impl_stateText {γ : Type} : HdOk (γ := γ) PP 136 (H_impl_stateText impl_stateText) := hd_ok ok_impl_stateText
noncomputable def E_impl_DigestOf (impl_firstState : Option (List Int)) (impl_ending : Int → Option ByteArray) (impl_blocks : (List Int) → ByteArray → Option ((List Int) × ByteArray)) (impl_stateText : (List Int) → Option ByteArray) (s_0 : ByteArray) : Option ByteArray :=
  impl_firstState.bind fun r0 =>
  (impl_ending (s_0.size : Int)).bind fun r1 =>
  bif (decide ((s_0.size + r1.size) ≤ 9223372036854775807)) then
  (impl_blocks r0 (s_0 ++ r1)).bind fun r2 =>
  bif ((Nat.beq r2.1.length 8) && (Nat.beq 8 r2.1.length)) then
  bif (Nat.beq 8 r2.1.length) then
  (impl_stateText r2.1).bind fun r3 =>
  some r3
  else none
  else none
  else none
noncomputable def impl_DigestOf (s_0 : ByteArray) : Option ByteArray := E_impl_DigestOf impl_firstState impl_ending impl_blocks impl_stateText s_0
theorem e_impl_DigestOf (impl_firstState : Option (List Int)) (impl_ending : Int → Option ByteArray) (impl_blocks : (List Int) → ByteArray → Option ((List Int) × ByteArray)) (impl_stateText : (List Int) → Option ByteArray) : EntryIs0 ctx PP 84 [] [(134, H_impl_firstState impl_firstState), (135, H_impl_ending impl_ending), (133, H_impl_blocks impl_blocks), (136, H_impl_stateText impl_stateText)] cv1 cv1 (fun a => E_impl_DigestOf impl_firstState impl_ending impl_blocks impl_stateText a) := fun a => by kernel_rfl
theorem ok_impl_DigestOf : Tells ctx PP 84 cv1 cv1 (fun a => impl_DigestOf a) := fn_ok0 (hl_cons h_impl_firstState (hl_cons h_impl_ending (hl_cons h_impl_blocks (hl_cons h_impl_stateText hl_nil)))) Tryd.func84 (e_impl_DigestOf impl_firstState impl_ending impl_blocks impl_stateText)
noncomputable def H_impl_DigestOf {γ : Type} (F : ByteArray → Option ByteArray) : Hd ctx γ := hdl cv1.dec (fun a => F a) cv1.enc
theorem h_impl_DigestOf {γ : Type} : HdOk (γ := γ) PP 84 (H_impl_DigestOf impl_DigestOf) := hd_ok ok_impl_DigestOf
noncomputable def todo_impl_xored_0 : List Go.Item := [.code (cAt (bodyOf Tryd.f176) [1, 1, 0, 1, 0, 0, 0]), .code (cAt (bodyOf Tryd.f176) [1, 1, 0, 1, 0, 0, 1]), .inLoop (cAt (bodyOf Tryd.f176) [1, 1, 0, 1, 0, 0]), .inBlock 0, .code (cAt (bodyOf Tryd.f176) [1, 1, 1])]
inductive St_impl_xored where
  | c0 (x_1 : Int) (v_10 : Int) (v_11 : Int) (out_5 : (List Int))
noncomputable def at_impl_xored : St_impl_xored → LI
  | .c0 x_1 v_10 v_11 out_5 => (todo_impl_xored_0, [(1, [.one (.int .u8 x_1)]), (5, [.one (.own 368)]), (10, [.one (.int .i64 v_10)]), (11, [.one (.int .i64 v_11)])], [(368, .sl 5 out_5)])
noncomputable def E_impl_xored  (k : St_impl_xored → Option ByteArray) (s_0 : ByteArray) (x_1 : Int) : Option ByteArray :=
  bif (decide (s_0.size ≤ 9223372036854775807)) then
  k (.c0 x_1 ((bytesOf s_0).length : Int) (0 : Int) (bytesOf s_0))
  else none
noncomputable def B_impl_xored  (k : St_impl_xored → Option ByteArray) : St_impl_xored → Option ByteArray
  | .c0 x_1 v_10 v_11 out_5 =>
    bif (decide (v_11 < v_10)) then
      bif ((decide (0 ≤ v_11)) && (decide (v_11 < (out_5.length : Int)))) then
      bif ((decide (0 ≤ v_11)) && (decide (v_11 < (out_5.length : Int)))) then
      k (.c0 x_1 v_10 (w64 (v_11 + 1)) (out_5.set v_11.toNat (w8 (((BitVec.toNat ((BitVec.ofInt (IntKind.bits IntKind.u8) (out_5.getD v_11.toNat 0)) ^^^ (BitVec.ofInt (IntKind.bits IntKind.u8) x_1))) : Nat) : Int))))
      else none
      else none
    else
      some (ofBytes out_5)
noncomputable def L_impl_xored : Nat → St_impl_xored → Option ByteArray
  | 0, _ => none
  | m + 1, s => B_impl_xored  (L_impl_xored m) s
noncomputable def impl_xored (s_0 : ByteArray) (x_1 : Int) : Option ByteArray := E_impl_xored  (L_impl_xored gas) s_0 x_1
theorem e_impl_xored  : EntryIs ctx PP 176 [] [] cv14 cv1 at_impl_xored (fun k a => E_impl_xored  k a.1 a.2) := fun stop a => by kernel_rfl
theorem b_impl_xored  : CutIs ctx PP 176 Tryd.f176 [] [] cv1 at_impl_xored (B_impl_xored ) := fun stop s => by cases s <;> kernel_rfl
theorem i_impl_xored : ∀ s s', at_impl_xored s = at_impl_xored s' → s = s' := by
  intro s s' h
  cases s with
  | c0 v0 v1 v2 v3 => cases s' with
    | c0 w0 w1 w2 w3 => cases h; rfl
theorem ok_impl_xored : Tells ctx PP 176 cv14 cv1 (fun a => impl_xored a.1 a.2) := fn_ok hl_nil Tryd.func176 i_impl_xored (fun _ => rfl) (fun _ _ => rfl) (b_impl_xored ) (e_impl_xored ) gas
noncomputable def H_impl_xored {γ : Type} (F : ByteArray → Int → Option ByteArray) : Hd ctx γ := hdl cv14.dec (fun a => F a.1 a.2) cv1.enc
theorem h_impl_xored {γ : Type} : HdOk (γ := γ) PP 176 (H_impl_xored impl_xored) := hd_ok ok_impl_xored
noncomputable def E_impl_MacOf (impl_DigestOf : ByteArray → Option ByteArray) (impl_zeros : Int → Option ByteArray) (impl_xored : ByteArray → Int → Option ByteArray) (key_0 : ByteArray) (s_1 : ByteArray) : Option ByteArray :=
  bif (decide ((key_0.size : Int) > 64)) then
    (impl_DigestOf key_0).bind fun r0 =>
    (impl_zeros (w64 (64 - (r0.size : Int)))).bind fun r1 =>
    bif (decide ((r0.size + r1.size) ≤ 9223372036854775807)) then
    (impl_xored (r0 ++ r1) (92 : Int)).bind fun r2 =>
    (impl_xored (r0 ++ r1) (54 : Int)).bind fun r3 =>
    bif (decide ((r3.size + s_1.size) ≤ 9223372036854775807)) then
    (impl_DigestOf (r3 ++ s_1)).bind fun r4 =>
    bif (decide ((r2.size + r4.size) ≤ 9223372036854775807)) then
    (impl_DigestOf (r2 ++ r4)).bind fun r5 =>
    some r5
    else none
    else none
    else none
  else
    (impl_zeros (w64 (64 - (key_0.size : Int)))).bind fun r6 =>
    bif (decide ((key_0.size + r6.size) ≤ 9223372036854775807)) then
    (impl_xored (key_0 ++ r6) (92 : Int)).bind fun r7 =>
    (impl_xored (key_0 ++ r6) (54 : Int)).bind fun r8 =>
    bif (decide ((r8.size + s_1.size) ≤ 9223372036854775807)) then
    (impl_DigestOf (r8 ++ s_1)).bind fun r9 =>
    bif (decide ((r7.size + r9.size) ≤ 9223372036854775807)) then
    (impl_DigestOf (r7 ++ r9)).bind fun r10 =>
    some r10
    else none
    else none
    else none
noncomputable def impl_MacOf (key_0 : ByteArray) (s_1 : ByteArray) : Option ByteArray := E_impl_MacOf impl_DigestOf impl_zeros impl_xored key_0 s_1
theorem e_impl_MacOf (impl_DigestOf : ByteArray → Option ByteArray) (impl_zeros : Int → Option ByteArray) (impl_xored : ByteArray → Int → Option ByteArray) : EntryIs0 ctx PP 154 [] [(84, H_impl_DigestOf impl_DigestOf), (115, H_impl_zeros impl_zeros), (176, H_impl_xored impl_xored)] cv15 cv1 (fun a => E_impl_MacOf impl_DigestOf impl_zeros impl_xored a.1 a.2) := fun a => by kernel_rfl
theorem ok_impl_MacOf : Tells ctx PP 154 cv15 cv1 (fun a => impl_MacOf a.1 a.2) := fn_ok0 (hl_cons h_impl_DigestOf (hl_cons h_impl_zeros (hl_cons h_impl_xored hl_nil))) Tryd.func154 (e_impl_MacOf impl_DigestOf impl_zeros impl_xored)
noncomputable def H_impl_MacOf {γ : Type} (F : ByteArray → ByteArray → Option ByteArray) : Hd ctx γ := hdl cv15.dec (fun a => F a.1 a.2) cv1.enc
theorem h_impl_MacOf {γ : Type} : HdOk (γ := γ) PP 154 (H_impl_MacOf impl_MacOf) := hd_ok ok_impl_MacOf
noncomputable def todo_impl_Mask_0 : List Go.Item := [.code (cAt (bodyOf Tryd.f111) [1, 1, 1, 1, 0, 1, 0, 0, 0, 0]), .code (cAt (bodyOf Tryd.f111) [1, 1, 1, 1, 0, 1, 0, 0, 0, 1]), .code (cAt (bodyOf Tryd.f111) [1, 1, 1, 1, 0, 1, 0, 0, 1]), .inLoop (cAt (bodyOf Tryd.f111) [1, 1, 1, 1, 0, 1, 0, 0]), .inBlock 0, .code (cAt (bodyOf Tryd.f111) [1, 1, 1, 1, 1])]
inductive St_impl_Mask where
  | c0 (key_0 : ByteArray) (n_2 : Int) (v_8 : ByteArray) (out_10 : ByteArray) (i_11 : Int)
noncomputable def at_impl_Mask : St_impl_Mask → LI
  | .c0 key_0 n_2 v_8 out_10 i_11 => (todo_impl_Mask_0, [(0, [.one (.str key_0)]), (2, [.one (.int .i64 n_2)]), (8, [.one (.str v_8)]), (10, [.one (.str out_10)]), (11, [.one (.int .i64 i_11)])], [])
noncomputable def E_impl_Mask (impl_VarText : Int → Option (ByteArray × Bool)) (impl_in : Int → Int → Int → Option Bool) (impl_oneByte : Int → Option ByteArray) (impl_MacOf : ByteArray → ByteArray → Option ByteArray) (k : St_impl_Mask → Option (ByteArray × Bool)) (key_0 : ByteArray) (num_1 : Int) (n_2 : Int) : Option (ByteArray × Bool) :=
  (impl_VarText num_1).bind fun r0 =>
  bif (!r0.2) then
    some ((⟨#[]⟩ : ByteArray), false)
  else
    (impl_in n_2 (0 : Int) (8000 : Int)).bind fun r1 =>
    bif (!r1) then
      some ((⟨#[]⟩ : ByteArray), false)
    else
      k (.c0 key_0 n_2 r0.1 (⟨#[]⟩ : ByteArray) (0 : Int))
noncomputable def B_impl_Mask (impl_VarText : Int → Option (ByteArray × Bool)) (impl_in : Int → Int → Int → Option Bool) (impl_oneByte : Int → Option ByteArray) (impl_MacOf : ByteArray → ByteArray → Option ByteArray) (k : St_impl_Mask → Option (ByteArray × Bool)) : St_impl_Mask → Option (ByteArray × Bool)
  | .c0 key_0 n_2 v_8 out_10 i_11 =>
    bif (decide ((out_10.size : Int) < n_2)) then
      bif (decide (((⟨#[109]⟩ : ByteArray).size + v_8.size) ≤ 9223372036854775807)) then
      (impl_oneByte i_11).bind fun r0 =>
      bif (decide ((((⟨#[109]⟩ : ByteArray) ++ v_8).size + r0.size) ≤ 9223372036854775807)) then
      (impl_MacOf key_0 (((⟨#[109]⟩ : ByteArray) ++ v_8) ++ r0)).bind fun r1 =>
      bif (decide ((out_10.size + r1.size) ≤ 9223372036854775807)) then
      k (.c0 key_0 n_2 v_8 (out_10 ++ r1) (w64 (i_11 + 1)))
      else none
      else none
      else none
    else
      bif ((decide (0 ≤ n_2)) && (decide (n_2 ≤ (out_10.size : Int)))) then
      some ((out_10.extract 0 n_2.toNat), true)
      else none
noncomputable def L_impl_Mask : Nat → St_impl_Mask → Option (ByteArray × Bool)
  | 0, _ => none
  | m + 1, s => B_impl_Mask impl_VarText impl_in impl_oneByte impl_MacOf (L_impl_Mask m) s
noncomputable def impl_Mask (key_0 : ByteArray) (num_1 : Int) (n_2 : Int) : Option (ByteArray × Bool) := E_impl_Mask impl_VarText impl_in impl_oneByte impl_MacOf (L_impl_Mask gas) key_0 num_1 n_2
theorem e_impl_Mask (impl_VarText : Int → Option (ByteArray × Bool)) (impl_in : Int → Int → Int → Option Bool) (impl_oneByte : Int → Option ByteArray) (impl_MacOf : ByteArray → ByteArray → Option ByteArray) : EntryIs ctx PP 111 [] [(153, H_impl_VarText impl_VarText), (64, H_impl_in impl_in), (122, H_impl_oneByte impl_oneByte), (154, H_impl_MacOf impl_MacOf)] cv16 cv17 at_impl_Mask (fun k a => E_impl_Mask impl_VarText impl_in impl_oneByte impl_MacOf k a.1 a.2.1 a.2.2) := fun stop a => by kernel_rfl
theorem b_impl_Mask (impl_VarText : Int → Option (ByteArray × Bool)) (impl_in : Int → Int → Int → Option Bool) (impl_oneByte : Int → Option ByteArray) (impl_MacOf : ByteArray → ByteArray → Option ByteArray) : CutIs ctx PP 111 Tryd.f111 [] [(153, H_impl_VarText impl_VarText), (64, H_impl_in impl_in), (122, H_impl_oneByte impl_oneByte), (154, H_impl_MacOf impl_MacOf)] cv17 at_impl_Mask (B_impl_Mask impl_VarText impl_in impl_oneByte impl_MacOf) := fun stop s => by cases s <;> kernel_rfl
theorem i_impl_Mask : ∀ s s', at_impl_Mask s = at_impl_Mask s' → s = s' := by
  intro s s' h
  cases s with
  | c0 v0 v1 v2 v3 v4 => cases s' with
    | c0 w0 w1 w2 w3 w4 => cases h; rfl
theorem ok_impl_Mask : Tells ctx PP 111 cv16 cv17 (fun a => impl_Mask a.1 a.2.1 a.2.2) := fn_ok (hl_cons h_impl_VarText (hl_cons h_impl_in (hl_cons h_impl_oneByte (hl_cons h_impl_MacOf hl_nil)))) Tryd.func111 i_impl_Mask (fun _ => rfl) (fun _ _ => rfl) (b_impl_Mask impl_VarText impl_in impl_oneByte impl_MacOf) (e_impl_Mask impl_VarText impl_in impl_oneByte impl_MacOf) gas
noncomputable def H_impl_Mask {γ : Type} (F : ByteArray → Int → Int → Option (ByteArray × Bool)) : Hd ctx γ := hdl cv16.dec (fun a => F a.1 a.2.1 a.2.2) cv17.enc
theorem h_impl_Mask {γ : Type} : HdOk (γ := γ) PP 111 (H_impl_Mask impl_Mask) := hd_ok ok_impl_Mask
noncomputable def E_impl_tag (impl_varText : Int → Option ByteArray) (impl_MacOf : ByteArray → ByteArray → Option ByteArray) (key_0 : ByteArray) (num_1 : Int) (s_2 : ByteArray) : Option ByteArray :=
  (impl_varText num_1).bind fun r0 =>
  bif (decide (((⟨#[116]⟩ : ByteArray).size + r0.size) ≤ 9223372036854775807)) then
  bif (decide ((((⟨#[116]⟩ : ByteArray) ++ r0).size + s_2.size) ≤ 9223372036854775807)) then
  (impl_MacOf key_0 (((⟨#[116]⟩ : ByteArray) ++ r0) ++ s_2)).bind fun r1 =>
  bif ((decide ((0 : Int) ≤ (16 : Int))) && (decide (16 ≤ (r1.size : Int)))) then
  some (r1.extract 0 (16 : Int).toNat)
  else none
  else none
  else none
noncomputable def impl_tag (key_0 : ByteArray) (num_1 : Int) (s_2 : ByteArray) : Option ByteArray := E_impl_tag impl_varText impl_MacOf key_0 num_1 s_2
theorem e_impl_tag (impl_varText : Int → Option ByteArray) (impl_MacOf : ByteArray → ByteArray → Option ByteArray) : EntryIs0 ctx PP 113 [] [(114, H_impl_varText impl_varText), (154, H_impl_MacOf impl_MacOf)] cv18 cv1 (fun a => E_impl_tag impl_varText impl_MacOf a.1 a.2.1 a.2.2) := fun a => by kernel_rfl
theorem ok_impl_tag : Tells ctx PP 113 cv18 cv1 (fun a => impl_tag a.1 a.2.1 a.2.2) := fn_ok0 (hl_cons h_impl_varText (hl_cons h_impl_MacOf hl_nil)) Tryd.func113 (e_impl_tag impl_varText impl_MacOf)
noncomputable def H_impl_tag {γ : Type} (F : ByteArray → Int → ByteArray → Option ByteArray) : Hd ctx γ := hdl cv18.dec (fun a => F a.1 a.2.1 a.2.2) cv1.enc
theorem h_impl_tag {γ : Type} : HdOk (γ := γ) PP 113 (H_impl_tag impl_tag) := hd_ok ok_impl_tag
noncomputable def todo_impl_both_0 : List Go.Item := [.code (cAt (bodyOf Tryd.f112) [1, 1, 0, 1, 0, 0, 0]), .code (cAt (bodyOf Tryd.f112) [1, 1, 0, 1, 0, 0, 1]), .inLoop (cAt (bodyOf Tryd.f112) [1, 1, 0, 1, 0, 0]), .inBlock 0, .code (cAt (bodyOf Tryd.f112) [1, 1, 1])]
inductive St_impl_both where
  | c0 (b_1 : ByteArray) (v_10 : Int) (v_11 : Int) (out_5 : (List Int))
noncomputable def at_impl_both : St_impl_both → LI
  | .c0 b_1 v_10 v_11 out_5 => (todo_impl_both_0, [(1, [.one (.str b_1)]), (5, [.one (.own 368)]), (10, [.one (.int .i64 v_10)]), (11, [.one (.int .i64 v_11)])], [(368, .sl 5 out_5)])
noncomputable def E_impl_both  (k : St_impl_both → Option ByteArray) (a_0 : ByteArray) (b_1 : ByteArray) : Option ByteArray :=
  bif (decide (a_0.size ≤ 9223372036854775807)) then
  k (.c0 b_1 ((bytesOf a_0).length : Int) (0 : Int) (bytesOf a_0))
  else none
noncomputable def B_impl_both  (k : St_impl_both → Option ByteArray) : St_impl_both → Option ByteArray
  | .c0 b_1 v_10 v_11 out_5 =>
    bif (decide (v_11 < v_10)) then
      bif ((decide (0 ≤ v_11)) && (decide (v_11 < (out_5.length : Int)))) then
      bif ((decide (0 ≤ v_11)) && (decide (v_11 < (b_1.size : Int)))) then
      bif ((decide (0 ≤ v_11)) && (decide (v_11 < (out_5.length : Int)))) then
      k (.c0 b_1 v_10 (w64 (v_11 + 1)) (out_5.set v_11.toNat (w8 (((BitVec.toNat ((BitVec.ofInt (IntKind.bits IntKind.u8) (out_5.getD v_11.toNat 0)) ^^^ (BitVec.ofInt (IntKind.bits IntKind.u8) (bt b_1 v_11)))) : Nat) : Int))))
      else none
      else none
      else none
    else
      some (ofBytes out_5)
noncomputable def L_impl_both : Nat → St_impl_both → Option ByteArray
  | 0, _ => none
  | m + 1, s => B_impl_both  (L_impl_both m) s
noncomputable def impl_both (a_0 : ByteArray) (b_1 : ByteArray) : Option ByteArray := E_impl_both  (L_impl_both gas) a_0 b_1
theorem e_impl_both  : EntryIs ctx PP 112 [] [] cv15 cv1 at_impl_both (fun k a => E_impl_both  k a.1 a.2) := fun stop a => by kernel_rfl
theorem b_impl_both  : CutIs ctx PP 112 Tryd.f112 [] [] cv1 at_impl_both (B_impl_both ) := fun stop s => by cases s <;> kernel_rfl
theorem i_impl_both : ∀ s s', at_impl_both s = at_impl_both s' → s = s' := by
  intro s s' h
  cases s with
  | c0 v0 v1 v2 v3 => cases s' with
    | c0 w0 w1 w2 w3 => cases h; rfl
theorem ok_impl_both : Tells ctx PP 112 cv15 cv1 (fun a => impl_both a.1 a.2) := fn_ok hl_nil Tryd.func112 i_impl_both (fun _ => rfl) (fun _ _ => rfl) (b_impl_both ) (e_impl_both ) gas
noncomputable def H_impl_both {γ : Type} (F : ByteArray → ByteArray → Option ByteArray) : Hd ctx γ := hdl cv15.dec (fun a => F a.1 a.2) cv1.enc
theorem h_impl_both {γ : Type} : HdOk (γ := γ) PP 112 (H_impl_both impl_both) := hd_ok ok_impl_both
noncomputable def E_impl_OpenText (impl_Mask : ByteArray → Int → Int → Option (ByteArray × Bool)) (impl_tag : ByteArray → Int → ByteArray → Option ByteArray) (impl_both : ByteArray → ByteArray → Option ByteArray) (key_0 : ByteArray) (num_1 : Int) (text_2 : ByteArray) : Option (ByteArray × Bool) :=
  bif (decide ((w64 ((text_2.size : Int) - 16)) < 0)) then
    some ((⟨#[]⟩ : ByteArray), false)
  else
    (impl_Mask key_0 num_1 (w64 ((text_2.size : Int) - 16))).bind fun r0 =>
    bif (!r0.2) then
      some ((⟨#[]⟩ : ByteArray), false)
    else
      bif ((decide (0 ≤ (w64 ((text_2.size : Int) - 16)))) && (decide ((w64 ((text_2.size : Int) - 16)) ≤ (text_2.size : Int)))) then
      (impl_tag key_0 num_1 (text_2.extract 0 (w64 ((text_2.size : Int) - 16)).toNat)).bind fun r1 =>
      bif ((decide (0 ≤ (w64 ((text_2.size : Int) - 16)))) && (decide ((w64 ((text_2.size : Int) - 16)) ≤ (text_2.size : Int)))) then
      bif (!((ByteArray.toList r1) == (ByteArray.toList (text_2.extract (w64 ((text_2.size : Int) - 16)).toNat text_2.size)))) then
        some ((⟨#[]⟩ : ByteArray), false)
      else
        bif ((decide (0 ≤ (w64 ((text_2.size : Int) - 16)))) && (decide ((w64 ((text_2.size : Int) - 16)) ≤ (text_2.size : Int)))) then
        (impl_both (text_2.extract 0 (w64 ((text_2.size : Int) - 16)).toNat) r0.1).bind fun r2 =>
        some (r2, true)
        else none
      else none
      else none
noncomputable def impl_OpenText (key_0 : ByteArray) (num_1 : Int) (text_2 : ByteArray) : Option (ByteArray × Bool) := E_impl_OpenText impl_Mask impl_tag impl_both key_0 num_1 text_2
theorem e_impl_OpenText (impl_Mask : ByteArray → Int → Int → Option (ByteArray × Bool)) (impl_tag : ByteArray → Int → ByteArray → Option ByteArray) (impl_both : ByteArray → ByteArray → Option ByteArray) : EntryIs0 ctx PP 56 [] [(111, H_impl_Mask impl_Mask), (113, H_impl_tag impl_tag), (112, H_impl_both impl_both)] cv18 cv17 (fun a => E_impl_OpenText impl_Mask impl_tag impl_both a.1 a.2.1 a.2.2) := fun a => by kernel_rfl
theorem ok_impl_OpenText : Tells ctx PP 56 cv18 cv17 (fun a => impl_OpenText a.1 a.2.1 a.2.2) := fn_ok0 (hl_cons h_impl_Mask (hl_cons h_impl_tag (hl_cons h_impl_both hl_nil))) Tryd.func56 (e_impl_OpenText impl_Mask impl_tag impl_both)
noncomputable def H_impl_OpenText {γ : Type} (F : ByteArray → Int → ByteArray → Option (ByteArray × Bool)) : Hd ctx γ := hdl cv18.dec (fun a => F a.1 a.2.1 a.2.2) cv17.enc
theorem h_impl_OpenText {γ : Type} : HdOk (γ := γ) PP 56 (H_impl_OpenText impl_OpenText) := hd_ok ok_impl_OpenText
noncomputable def E_impl_fields_num (impl_ReadVar : ByteArray → Int → Option (Int × Int × Bool)) (f_0 : SFields) : Option (Int × SFields) :=
  (impl_ReadVar f_0.fText f_0.fAt).bind fun r0 =>
  bif (!r0.2.2) then
    some ((0 : Int), (⟨f_0.fText, f_0.fAt, true⟩ : SFields))
  else
    some (r0.1, (⟨f_0.fText, r0.2.1, f_0.fBad⟩ : SFields))
noncomputable def impl_fields_num (f_0 : SFields) : Option (Int × SFields) := E_impl_fields_num impl_ReadVar f_0
theorem e_impl_fields_num (impl_ReadVar : ByteArray → Int → Option (Int × Int × Bool)) : EntryIs0 ctx PP 173 [0] [(117, H_impl_ReadVar impl_ReadVar)] cv120 cv121 (fun a => E_impl_fields_num impl_ReadVar a) := fun a => by kernel_rfl
theorem ok_impl_fields_num : Tells ctx PP 173 cv120 cv121 (fun a => impl_fields_num a) := fn_ok0 (hl_cons h_impl_ReadVar hl_nil) Tryd.func173 (e_impl_fields_num impl_ReadVar)
noncomputable def H_impl_fields_num {γ : Type} (F : SFields → Option (Int × SFields)) : Hd ctx γ := hdl cv120.dec (fun a => F a) cv121.enc
theorem h_impl_fields_num {γ : Type} : HdOk (γ := γ) PP 173 (H_impl_fields_num impl_fields_num) := hd_ok ok_impl_fields_num
noncomputable def E_impl_ReadShort (impl_ReadVar : ByteArray → Int → Option (Int × Int × Bool)) (text_0 : ByteArray) (at_1 : Int) : Option (ByteArray × Int × Bool) :=
  (impl_ReadVar text_0 at_1).bind fun r0 =>
  bif (!r0.2.2) then
    some ((⟨#[]⟩ : ByteArray), ((0 : Int), false))
  else
    bif (decide (r0.1 > 20000)) then
      some ((⟨#[]⟩ : ByteArray), ((0 : Int), false))
    else
      bif (decide (r0.1 > (w64 ((text_0.size : Int) - r0.2.1)))) then
        some ((⟨#[]⟩ : ByteArray), ((0 : Int), false))
      else
        bif (((decide (0 ≤ r0.2.1)) && (decide (r0.2.1 ≤ (w64 (r0.2.1 + r0.1))))) && (decide ((w64 (r0.2.1 + r0.1)) ≤ (text_0.size : Int)))) then
        some ((text_0.extract r0.2.1.toNat (w64 (r0.2.1 + r0.1)).toNat), ((w64 (r0.2.1 + r0.1)), true))
        else none
noncomputable def impl_ReadShort (text_0 : ByteArray) (at_1 : Int) : Option (ByteArray × Int × Bool) := E_impl_ReadShort impl_ReadVar text_0 at_1
theorem e_impl_ReadShort (impl_ReadVar : ByteArray → Int → Option (Int × Int × Bool)) : EntryIs0 ctx PP 57 [] [(117, H_impl_ReadVar impl_ReadVar)] cv8 cv23 (fun a => E_impl_ReadShort impl_ReadVar a.1 a.2) := fun a => by kernel_rfl
theorem ok_impl_ReadShort : Tells ctx PP 57 cv8 cv23 (fun a => impl_ReadShort a.1 a.2) := fn_ok0 (hl_cons h_impl_ReadVar hl_nil) Tryd.func57 (e_impl_ReadShort impl_ReadVar)
noncomputable def H_impl_ReadShort {γ : Type} (F : ByteArray → Int → Option (ByteArray × Int × Bool)) : Hd ctx γ := hdl cv8.dec (fun a => F a.1 a.2) cv23.enc
theorem h_impl_ReadShort {γ : Type} : HdOk (γ := γ) PP 57 (H_impl_ReadShort impl_ReadShort) := hd_ok ok_impl_ReadShort
noncomputable def E_impl_fields_short (impl_ReadShort : ByteArray → Int → Option (ByteArray × Int × Bool)) (f_0 : SFields) : Option (ByteArray × SFields) :=
  (impl_ReadShort f_0.fText f_0.fAt).bind fun r0 =>
  bif (!r0.2.2) then
    some ((⟨#[]⟩ : ByteArray), (⟨f_0.fText, f_0.fAt, true⟩ : SFields))
  else
    some (r0.1, (⟨f_0.fText, r0.2.1, f_0.fBad⟩ : SFields))
noncomputable def impl_fields_short (f_0 : SFields) : Option (ByteArray × SFields) := E_impl_fields_short impl_ReadShort f_0
theorem e_impl_fields_short (impl_ReadShort : ByteArray → Int → Option (ByteArray × Int × Bool)) : EntryIs0 ctx PP 174 [0] [(57, H_impl_ReadShort impl_ReadShort)] cv120 cv122 (fun a => E_impl_fields_short impl_ReadShort a) := fun a => by kernel_rfl
theorem ok_impl_fields_short : Tells ctx PP 174 cv120 cv122 (fun a => impl_fields_short a) := fn_ok0 (hl_cons h_impl_ReadShort hl_nil) Tryd.func174 (e_impl_fields_short impl_ReadShort)
noncomputable def H_impl_fields_short {γ : Type} (F : SFields → Option (ByteArray × SFields)) : Hd ctx γ := hdl cv120.dec (fun a => F a) cv122.enc
theorem h_impl_fields_short {γ : Type} : HdOk (γ := γ) PP 174 (H_impl_fields_short impl_fields_short) := hd_ok ok_impl_fields_short
noncomputable def E_impl_ThingOk (impl_in : Int → Int → Int → Option Bool) (x_0 : SThing) : Option Bool :=
  (impl_in x_0.fId (1 : Int) (1000 : Int)).bind fun r0 =>
  bif (!r0) then
    some false
  else
    (impl_in x_0.fNext (0 : Int) (16 : Int)).bind fun r1 =>
    bif (!r1) then
      some false
    else
      bif (x_0.fKind != 2) then
        bif (x_0.fNext != 0) then
          some false
        else
          bif x_0.fSigns then
            some false
          else
            bif (x_0.fKind != 1) then
              bif x_0.fWraps then
                some false
              else
                bif (x_0.fKind == 1) then
                  bif (x_0.fKind == 1) then
                    some ((x_0.fValue.size : Int) == 32)
                  else
                    bif (x_0.fKind == 3) then
                      some (decide ((x_0.fValue.size : Int) ≤ 100))
                    else
                      some false
                else
                  bif (x_0.fKind == 2) then
                    some ((x_0.fValue.size : Int) == 32)
                  else
                    bif (x_0.fKind == 3) then
                      some (decide ((x_0.fValue.size : Int) ≤ 100))
                    else
                      some false
            else
              bif (x_0.fKind == 1) then
                bif (x_0.fKind == 1) then
                  some ((x_0.fValue.size : Int) == 32)
                else
                  bif (x_0.fKind == 3) then
                    some (decide ((x_0.fValue.size : Int) ≤ 100))
                  else
                    some false
              else
                bif (x_0.fKind == 2) then
                  some ((x_0.fValue.size : Int) == 32)
                else
                  bif (x_0.fKind == 3) then
                    some (decide ((x_0.fValue.size : Int) ≤ 100))
                  else
                    some false
      else
        bif (x_0.fKind != 1) then
          bif x_0.fWraps then
            some false
          else
            bif (x_0.fKind == 1) then
              bif (x_0.fKind == 1) then
                some ((x_0.fValue.size : Int) == 32)
              else
                bif (x_0.fKind == 3) then
                  some (decide ((x_0.fValue.size : Int) ≤ 100))
                else
                  some false
            else
              bif (x_0.fKind == 2) then
                some ((x_0.fValue.size : Int) == 32)
              else
                bif (x_0.fKind == 3) then
                  some (decide ((x_0.fValue.size : Int) ≤ 100))
                else
                  some false
        else
          bif (x_0.fKind == 1) then
            bif (x_0.fKind == 1) then
              some ((x_0.fValue.size : Int) == 32)
            else
              bif (x_0.fKind == 3) then
                some (decide ((x_0.fValue.size : Int) ≤ 100))
              else
                some false
          else
            bif (x_0.fKind == 2) then
              some ((x_0.fValue.size : Int) == 32)
            else
              bif (x_0.fKind == 3) then
                some (decide ((x_0.fValue.size : Int) ≤ 100))
              else
                some false
noncomputable def impl_ThingOk (x_0 : SThing) : Option Bool := E_impl_ThingOk impl_in x_0
theorem e_impl_ThingOk (impl_in : Int → Int → Int → Option Bool) : EntryIs0 ctx PP 131 [] [(64, H_impl_in impl_in)] cv26 cv3 (fun a => E_impl_ThingOk impl_in a) := fun a => by kernel_rfl
theorem ok_impl_ThingOk : Tells ctx PP 131 cv26 cv3 (fun a => impl_ThingOk a) := fn_ok0 (hl_cons h_impl_in hl_nil) Tryd.func131 (e_impl_ThingOk impl_in)
noncomputable def H_impl_ThingOk {γ : Type} (F : SThing → Option Bool) : Hd ctx γ := hdl cv26.dec (fun a => F a) cv3.enc
theorem h_impl_ThingOk {γ : Type} : HdOk (γ := γ) PP 131 (H_impl_ThingOk impl_ThingOk) := hd_ok ok_impl_ThingOk
noncomputable def todo_impl_flags_0 : List Go.Item := [.code (cAt (bodyOf Tryd.f158) [1, 1, 0, 1, 0, 0, 0]), .code (cAt (bodyOf Tryd.f158) [1, 1, 0, 1, 0, 0, 1]), .inLoop (cAt (bodyOf Tryd.f158) [1, 1, 0, 1, 0, 0]), .inBlock 0, .code (cAt (bodyOf Tryd.f158) [1, 1, 1])]
inductive St_impl_flags where
  | c0 (n_3 : Int) (v_15 : Int) (v_16 : Int) (v_14 : (List Bool))
noncomputable def at_impl_flags : St_impl_flags → LI
  | .c0 n_3 v_15 v_16 v_14 => (todo_impl_flags_0, [(3, [.one (.int .i64 n_3)]), (14, [.one (.own 944)]), (15, [.one (.int .i64 v_15)]), (16, [.one (.int .i64 v_16)])], [(944, .sl 4 v_14)])
noncomputable def E_impl_flags  (k : St_impl_flags → Option Int) (x_0 : SThing) : Option Int :=
  k (.c0 (0 : Int) ((4 : Nat) : Int) (0 : Int) [x_0.fHidden, x_0.fFixed, x_0.fSigns, x_0.fWraps])
noncomputable def B_impl_flags  (k : St_impl_flags → Option Int) : St_impl_flags → Option Int
  | .c0 n_3 v_15 v_16 v_14 =>
    bif (decide (v_16 < v_15)) then
      bif ((decide (0 ≤ v_16)) && (decide (v_16 < (v_14.length : Int)))) then
      bif (v_14.getD v_16.toNat false) then
        bif (decide (0 ≤ v_16)) then
        k (.c0 (w64 (((BitVec.toNat ((BitVec.ofInt (IntKind.bits IntKind.i64) n_3) ||| (BitVec.ofInt (IntKind.bits IntKind.i64) (w64 (1 * (2 ^ (Min.min v_16.toNat (IntKind.bits IntKind.i64)))))))) : Nat) : Int)) v_15 (w64 (v_16 + 1)) v_14)
        else none
      else
        k (.c0 n_3 v_15 (w64 (v_16 + 1)) v_14)
      else none
    else
      some n_3
noncomputable def L_impl_flags : Nat → St_impl_flags → Option Int
  | 0, _ => none
  | m + 1, s => B_impl_flags  (L_impl_flags m) s
noncomputable def impl_flags (x_0 : SThing) : Option Int := E_impl_flags  (L_impl_flags gas) x_0
theorem e_impl_flags  : EntryIs ctx PP 158 [] [] cv26 cv0 at_impl_flags (fun k a => E_impl_flags  k a) := fun stop a => by kernel_rfl
theorem b_impl_flags  : CutIs ctx PP 158 Tryd.f158 [] [] cv0 at_impl_flags (B_impl_flags ) := fun stop s => by cases s <;> kernel_rfl
theorem i_impl_flags : ∀ s s', at_impl_flags s = at_impl_flags s' → s = s' := by
  intro s s' h
  cases s with
  | c0 v0 v1 v2 v3 => cases s' with
    | c0 w0 w1 w2 w3 => cases h; rfl
theorem ok_impl_flags : Tells ctx PP 158 cv26 cv0 (fun a => impl_flags a) := fn_ok hl_nil Tryd.func158 i_impl_flags (fun _ => rfl) (fun _ _ => rfl) (b_impl_flags ) (e_impl_flags ) gas
noncomputable def H_impl_flags {γ : Type} (F : SThing → Option Int) : Hd ctx γ := hdl cv26.dec (fun a => F a) cv0.enc
theorem h_impl_flags {γ : Type} : HdOk (γ := γ) PP 158 (H_impl_flags impl_flags) := hd_ok ok_impl_flags
noncomputable def E_impl_shortText (impl_varText : Int → Option ByteArray) (s_0 : ByteArray) : Option ByteArray :=
  (impl_varText (s_0.size : Int)).bind fun r0 =>
  bif (decide ((r0.size + s_0.size) ≤ 9223372036854775807)) then
  some (r0 ++ s_0)
  else none
noncomputable def impl_shortText (s_0 : ByteArray) : Option ByteArray := E_impl_shortText impl_varText s_0
theorem e_impl_shortText (impl_varText : Int → Option ByteArray) : EntryIs0 ctx PP 159 [] [(114, H_impl_varText impl_varText)] cv1 cv1 (fun a => E_impl_shortText impl_varText a) := fun a => by kernel_rfl
theorem ok_impl_shortText : Tells ctx PP 159 cv1 cv1 (fun a => impl_shortText a) := fn_ok0 (hl_cons h_impl_varText hl_nil) Tryd.func159 (e_impl_shortText impl_varText)
noncomputable def H_impl_shortText {γ : Type} (F : ByteArray → Option ByteArray) : Hd ctx γ := hdl cv1.dec (fun a => F a) cv1.enc
theorem h_impl_shortText {γ : Type} : HdOk (γ := γ) PP 159 (H_impl_shortText impl_shortText) := hd_ok ok_impl_shortText
noncomputable def E_impl_ThingText (impl_ThingOk : SThing → Option Bool) (impl_varText : Int → Option ByteArray) (impl_oneByte : Int → Option ByteArray) (impl_flags : SThing → Option Int) (impl_shortText : ByteArray → Option ByteArray) (x_0 : SThing) : Option (ByteArray × Bool) :=
  (impl_ThingOk x_0).bind fun r0 =>
  bif (!r0) then
    some ((⟨#[]⟩ : ByteArray), false)
  else
    (impl_varText x_0.fId).bind fun r1 =>
    (impl_oneByte x_0.fKind).bind fun r2 =>
    bif (decide ((r1.size + r2.size) ≤ 9223372036854775807)) then
    (impl_flags x_0).bind fun r3 =>
    (impl_oneByte r3).bind fun r4 =>
    bif (decide (((r1 ++ r2).size + r4.size) ≤ 9223372036854775807)) then
    (impl_shortText x_0.fValue).bind fun r5 =>
    bif (decide ((((r1 ++ r2) ++ r4).size + r5.size) ≤ 9223372036854775807)) then
    (impl_varText x_0.fNext).bind fun r6 =>
    bif (decide (((((r1 ++ r2) ++ r4) ++ r5).size + r6.size) ≤ 9223372036854775807)) then
    some (((((r1 ++ r2) ++ r4) ++ r5) ++ r6), true)
    else none
    else none
    else none
    else none
noncomputable def impl_ThingText (x_0 : SThing) : Option (ByteArray × Bool) := E_impl_ThingText impl_ThingOk impl_varText impl_oneByte impl_flags impl_shortText x_0
theorem e_impl_ThingText (impl_ThingOk : SThing → Option Bool) (impl_varText : Int → Option ByteArray) (impl_oneByte : Int → Option ByteArray) (impl_flags : SThing → Option Int) (impl_shortText : ByteArray → Option ByteArray) : EntryIs0 ctx PP 121 [] [(131, H_impl_ThingOk impl_ThingOk), (114, H_impl_varText impl_varText), (122, H_impl_oneByte impl_oneByte), (158, H_impl_flags impl_flags), (159, H_impl_shortText impl_shortText)] cv26 cv17 (fun a => E_impl_ThingText impl_ThingOk impl_varText impl_oneByte impl_flags impl_shortText a) := fun a => by kernel_rfl
theorem ok_impl_ThingText : Tells ctx PP 121 cv26 cv17 (fun a => impl_ThingText a) := fn_ok0 (hl_cons h_impl_ThingOk (hl_cons h_impl_varText (hl_cons h_impl_oneByte (hl_cons h_impl_flags (hl_cons h_impl_shortText hl_nil))))) Tryd.func121 (e_impl_ThingText impl_ThingOk impl_varText impl_oneByte impl_flags impl_shortText)
noncomputable def H_impl_ThingText {γ : Type} (F : SThing → Option (ByteArray × Bool)) : Hd ctx γ := hdl cv26.dec (fun a => F a) cv17.enc
theorem h_impl_ThingText {γ : Type} : HdOk (γ := γ) PP 121 (H_impl_ThingText impl_ThingText) := hd_ok ok_impl_ThingText
noncomputable def E_impl_ReadThing (impl_fields_num : SFields → Option (Int × SFields)) (impl_fields_short : SFields → Option (ByteArray × SFields)) (impl_ThingText : SThing → Option (ByteArray × Bool)) (text_0 : ByteArray) : Option (SThing × Bool) :=
  (impl_fields_num (⟨text_0, (0 : Int), false⟩ : SFields)).bind fun r0 =>
  (impl_fields_num r0.2).bind fun r1 =>
  (impl_fields_num r1.2).bind fun r2 =>
  (impl_fields_short r2.2).bind fun r3 =>
  (impl_fields_num r3.2).bind fun r4 =>
  (impl_ThingText (⟨r0.1, r1.1, ((w64 (((BitVec.toNat ((BitVec.ofInt (IntKind.bits IntKind.i64) r2.1) &&& (BitVec.ofInt (IntKind.bits IntKind.i64) (1 : Int)))) : Nat) : Int)) != 0), ((w64 (((BitVec.toNat ((BitVec.ofInt (IntKind.bits IntKind.i64) r2.1) &&& (BitVec.ofInt (IntKind.bits IntKind.i64) (2 : Int)))) : Nat) : Int)) != 0), ((w64 (((BitVec.toNat ((BitVec.ofInt (IntKind.bits IntKind.i64) r2.1) &&& (BitVec.ofInt (IntKind.bits IntKind.i64) (4 : Int)))) : Nat) : Int)) != 0), ((w64 (((BitVec.toNat ((BitVec.ofInt (IntKind.bits IntKind.i64) r2.1) &&& (BitVec.ofInt (IntKind.bits IntKind.i64) (8 : Int)))) : Nat) : Int)) != 0), r3.1, r4.1⟩ : SThing)).bind fun r5 =>
  bif r4.2.fBad then
    some ((⟨(0 : Int), (0 : Int), false, false, false, false, (⟨#[]⟩ : ByteArray), (0 : Int)⟩ : SThing), false)
  else
    bif (!r5.2) then
      some ((⟨(0 : Int), (0 : Int), false, false, false, false, (⟨#[]⟩ : ByteArray), (0 : Int)⟩ : SThing), false)
    else
      bif (!((ByteArray.toList r5.1) == (ByteArray.toList text_0))) then
        some ((⟨(0 : Int), (0 : Int), false, false, false, false, (⟨#[]⟩ : ByteArray), (0 : Int)⟩ : SThing), false)
      else
        some ((⟨r0.1, r1.1, ((w64 (((BitVec.toNat ((BitVec.ofInt (IntKind.bits IntKind.i64) r2.1) &&& (BitVec.ofInt (IntKind.bits IntKind.i64) (1 : Int)))) : Nat) : Int)) != 0), ((w64 (((BitVec.toNat ((BitVec.ofInt (IntKind.bits IntKind.i64) r2.1) &&& (BitVec.ofInt (IntKind.bits IntKind.i64) (2 : Int)))) : Nat) : Int)) != 0), ((w64 (((BitVec.toNat ((BitVec.ofInt (IntKind.bits IntKind.i64) r2.1) &&& (BitVec.ofInt (IntKind.bits IntKind.i64) (4 : Int)))) : Nat) : Int)) != 0), ((w64 (((BitVec.toNat ((BitVec.ofInt (IntKind.bits IntKind.i64) r2.1) &&& (BitVec.ofInt (IntKind.bits IntKind.i64) (8 : Int)))) : Nat) : Int)) != 0), r3.1, r4.1⟩ : SThing), true)
noncomputable def impl_ReadThing (text_0 : ByteArray) : Option (SThing × Bool) := E_impl_ReadThing impl_fields_num impl_fields_short impl_ThingText text_0
theorem e_impl_ReadThing (impl_fields_num : SFields → Option (Int × SFields)) (impl_fields_short : SFields → Option (ByteArray × SFields)) (impl_ThingText : SThing → Option (ByteArray × Bool)) : EntryIs0 ctx PP 150 [] [(173, H_impl_fields_num impl_fields_num), (174, H_impl_fields_short impl_fields_short), (121, H_impl_ThingText impl_ThingText)] cv1 cv44 (fun a => E_impl_ReadThing impl_fields_num impl_fields_short impl_ThingText a) := fun a => by kernel_rfl
theorem ok_impl_ReadThing : Tells ctx PP 150 cv1 cv44 (fun a => impl_ReadThing a) := fn_ok0 (hl_cons h_impl_fields_num (hl_cons h_impl_fields_short (hl_cons h_impl_ThingText hl_nil))) Tryd.func150 (e_impl_ReadThing impl_fields_num impl_fields_short impl_ThingText)
noncomputable def H_impl_ReadThing {γ : Type} (F : ByteArray → Option (SThing × Bool)) : Hd ctx γ := hdl cv1.dec (fun a => F a) cv44.enc
theorem h_impl_ReadThing {γ : Type} : HdOk (γ := γ) PP 150 (H_impl_ReadThing impl_ReadThing) := hd_ok ok_impl_ReadThing
noncomputable def E_impl_RecText (impl_varText : Int → Option ByteArray) (impl_in : Int → Int → Int → Option Bool) (impl_ThingText : SThing → Option (ByteArray × Bool)) (impl_oneByte : Int → Option ByteArray) (r_0 : SRec) : Option (ByteArray × Bool) :=
  bif (r_0.fKind == 1) then
    bif (!((r_0.fText.size : Int) == 32)) then
      some ((⟨#[]⟩ : ByteArray), false)
    else
      bif (!((r_0.fKind == r_0.fKind) && (((ByteArray.toList r_0.fText) == (ByteArray.toList r_0.fText)) && ((r_0.fNum == 0) && (((r_0.fThing.fId == 0) && ((r_0.fThing.fKind == 0) && ((r_0.fThing.fHidden == false) && ((r_0.fThing.fFixed == false) && ((r_0.fThing.fSigns == false) && ((r_0.fThing.fWraps == false) && (((ByteArray.toList r_0.fThing.fValue) == (ByteArray.toList (⟨#[]⟩ : ByteArray))) && ((r_0.fThing.fNext == 0) && true)))))))) && true))))) then
        some ((⟨#[]⟩ : ByteArray), false)
      else
        (impl_oneByte r_0.fKind).bind fun r0 =>
        bif (decide ((r0.size + r_0.fText.size) ≤ 9223372036854775807)) then
        some ((r0 ++ r_0.fText), true)
        else none
  else
    bif (r_0.fKind == 2) then
      (impl_varText r_0.fNum).bind fun r1 =>
      (impl_in r_0.fNum (0 : Int) (3 : Int)).bind fun r2 =>
      bif (!r2) then
        some ((⟨#[]⟩ : ByteArray), false)
      else
        bif (!((r_0.fKind == r_0.fKind) && (((ByteArray.toList r_0.fText) == (ByteArray.toList (⟨#[]⟩ : ByteArray))) && ((r_0.fNum == r_0.fNum) && (((r_0.fThing.fId == 0) && ((r_0.fThing.fKind == 0) && ((r_0.fThing.fHidden == false) && ((r_0.fThing.fFixed == false) && ((r_0.fThing.fSigns == false) && ((r_0.fThing.fWraps == false) && (((ByteArray.toList r_0.fThing.fValue) == (ByteArray.toList (⟨#[]⟩ : ByteArray))) && ((r_0.fThing.fNext == 0) && true)))))))) && true))))) then
          some ((⟨#[]⟩ : ByteArray), false)
        else
          (impl_oneByte r_0.fKind).bind fun r3 =>
          bif (decide ((r3.size + r1.size) ≤ 9223372036854775807)) then
          some ((r3 ++ r1), true)
          else none
    else
      bif (r_0.fKind == 3) then
        (impl_ThingText r_0.fThing).bind fun r4 =>
        bif (!r4.2) then
          some ((⟨#[]⟩ : ByteArray), false)
        else
          bif (!((r_0.fKind == r_0.fKind) && (((ByteArray.toList r_0.fText) == (ByteArray.toList (⟨#[]⟩ : ByteArray))) && ((r_0.fNum == 0) && (((r_0.fThing.fId == r_0.fThing.fId) && ((r_0.fThing.fKind == r_0.fThing.fKind) && ((r_0.fThing.fHidden == r_0.fThing.fHidden) && ((r_0.fThing.fFixed == r_0.fThing.fFixed) && ((r_0.fThing.fSigns == r_0.fThing.fSigns) && ((r_0.fThing.fWraps == r_0.fThing.fWraps) && (((ByteArray.toList r_0.fThing.fValue) == (ByteArray.toList r_0.fThing.fValue)) && ((r_0.fThing.fNext == r_0.fThing.fNext) && true)))))))) && true))))) then
            some ((⟨#[]⟩ : ByteArray), false)
          else
            (impl_oneByte r_0.fKind).bind fun r5 =>
            bif (decide ((r5.size + r4.1.size) ≤ 9223372036854775807)) then
            some ((r5 ++ r4.1), true)
            else none
      else
        bif (r_0.fKind == 4) then
          (impl_varText r_0.fNum).bind fun r6 =>
          (impl_in r_0.fNum (1 : Int) (1000 : Int)).bind fun r7 =>
          bif (!r7) then
            some ((⟨#[]⟩ : ByteArray), false)
          else
            bif (!((r_0.fKind == r_0.fKind) && (((ByteArray.toList r_0.fText) == (ByteArray.toList (⟨#[]⟩ : ByteArray))) && ((r_0.fNum == r_0.fNum) && (((r_0.fThing.fId == 0) && ((r_0.fThing.fKind == 0) && ((r_0.fThing.fHidden == false) && ((r_0.fThing.fFixed == false) && ((r_0.fThing.fSigns == false) && ((r_0.fThing.fWraps == false) && (((ByteArray.toList r_0.fThing.fValue) == (ByteArray.toList (⟨#[]⟩ : ByteArray))) && ((r_0.fThing.fNext == 0) && true)))))))) && true))))) then
              some ((⟨#[]⟩ : ByteArray), false)
            else
              (impl_oneByte r_0.fKind).bind fun r8 =>
              bif (decide ((r8.size + r6.size) ≤ 9223372036854775807)) then
              some ((r8 ++ r6), true)
              else none
        else
          some ((⟨#[]⟩ : ByteArray), false)
noncomputable def impl_RecText (r_0 : SRec) : Option (ByteArray × Bool) := E_impl_RecText impl_varText impl_in impl_ThingText impl_oneByte r_0
theorem e_impl_RecText (impl_varText : Int → Option ByteArray) (impl_in : Int → Int → Int → Option Bool) (impl_ThingText : SThing → Option (ByteArray × Bool)) (impl_oneByte : Int → Option ByteArray) : EntryIs0 ctx PP 63 [] [(114, H_impl_varText impl_varText), (64, H_impl_in impl_in), (121, H_impl_ThingText impl_ThingText), (122, H_impl_oneByte impl_oneByte)] cv27 cv17 (fun a => E_impl_RecText impl_varText impl_in impl_ThingText impl_oneByte a) := fun a => by kernel_rfl
theorem ok_impl_RecText : Tells ctx PP 63 cv27 cv17 (fun a => impl_RecText a) := fn_ok0 (hl_cons h_impl_varText (hl_cons h_impl_in (hl_cons h_impl_ThingText (hl_cons h_impl_oneByte hl_nil)))) Tryd.func63 (e_impl_RecText impl_varText impl_in impl_ThingText impl_oneByte)
noncomputable def H_impl_RecText {γ : Type} (F : SRec → Option (ByteArray × Bool)) : Hd ctx γ := hdl cv27.dec (fun a => F a) cv17.enc
theorem h_impl_RecText {γ : Type} : HdOk (γ := γ) PP 63 (H_impl_RecText impl_RecText) := hd_ok ok_impl_RecText
noncomputable def E_impl_ReadRec (impl_ReadThing : ByteArray → Option (SThing × Bool)) (impl_ReadVar : ByteArray → Int → Option (Int × Int × Bool)) (impl_RecText : SRec → Option (ByteArray × Bool)) (text_0 : ByteArray) : Option (SRec × Bool) :=
  bif ((ByteArray.toList text_0) == (ByteArray.toList (⟨#[]⟩ : ByteArray))) then
    some ((⟨(0 : Int), (⟨#[]⟩ : ByteArray), (0 : Int), (⟨(0 : Int), (0 : Int), false, false, false, false, (⟨#[]⟩ : ByteArray), (0 : Int)⟩ : SThing)⟩ : SRec), false)
  else
    bif ((decide ((0 : Int) ≤ (0 : Int))) && (decide (0 < (text_0.size : Int)))) then
    bif ((w64 (bt text_0 (0 : Int))) == 1) then
      bif ((decide ((0 : Int) ≤ (1 : Int))) && (decide (1 ≤ (text_0.size : Int)))) then
      (impl_RecText (⟨(w64 (bt text_0 (0 : Int))), (text_0.extract (1 : Int).toNat text_0.size), (0 : Int), (⟨(0 : Int), (0 : Int), false, false, false, false, (⟨#[]⟩ : ByteArray), (0 : Int)⟩ : SThing)⟩ : SRec)).bind fun r0 =>
      bif (!r0.2) then
        some ((⟨(0 : Int), (⟨#[]⟩ : ByteArray), (0 : Int), (⟨(0 : Int), (0 : Int), false, false, false, false, (⟨#[]⟩ : ByteArray), (0 : Int)⟩ : SThing)⟩ : SRec), false)
      else
        bif (!((ByteArray.toList r0.1) == (ByteArray.toList text_0))) then
          some ((⟨(0 : Int), (⟨#[]⟩ : ByteArray), (0 : Int), (⟨(0 : Int), (0 : Int), false, false, false, false, (⟨#[]⟩ : ByteArray), (0 : Int)⟩ : SThing)⟩ : SRec), false)
        else
          some ((⟨(w64 (bt text_0 (0 : Int))), (text_0.extract (1 : Int).toNat text_0.size), (0 : Int), (⟨(0 : Int), (0 : Int), false, false, false, false, (⟨#[]⟩ : ByteArray), (0 : Int)⟩ : SThing)⟩ : SRec), true)
      else none
    else
      bif ((w64 (bt text_0 (0 : Int))) == 3) then
        bif ((decide ((0 : Int) ≤ (1 : Int))) && (decide (1 ≤ (text_0.size : Int)))) then
        (impl_ReadThing (text_0.extract (1 : Int).toNat text_0.size)).bind fun r1 =>
        (impl_RecText (⟨(w64 (bt text_0 (0 : Int))), (⟨#[]⟩ : ByteArray), (0 : Int), r1.1⟩ : SRec)).bind fun r2 =>
        bif (!r2.2) then
          some ((⟨(0 : Int), (⟨#[]⟩ : ByteArray), (0 : Int), (⟨(0 : Int), (0 : Int), false, false, false, false, (⟨#[]⟩ : ByteArray), (0 : Int)⟩ : SThing)⟩ : SRec), false)
        else
          bif (!((ByteArray.toList r2.1) == (ByteArray.toList text_0))) then
            some ((⟨(0 : Int), (⟨#[]⟩ : ByteArray), (0 : Int), (⟨(0 : Int), (0 : Int), false, false, false, false, (⟨#[]⟩ : ByteArray), (0 : Int)⟩ : SThing)⟩ : SRec), false)
          else
            some ((⟨(w64 (bt text_0 (0 : Int))), (⟨#[]⟩ : ByteArray), (0 : Int), r1.1⟩ : SRec), true)
        else none
      else
        (impl_ReadVar text_0 (1 : Int)).bind fun r3 =>
        (impl_RecText (⟨(w64 (bt text_0 (0 : Int))), (⟨#[]⟩ : ByteArray), r3.1, (⟨(0 : Int), (0 : Int), false, false, false, false, (⟨#[]⟩ : ByteArray), (0 : Int)⟩ : SThing)⟩ : SRec)).bind fun r4 =>
        bif (!r4.2) then
          some ((⟨(0 : Int), (⟨#[]⟩ : ByteArray), (0 : Int), (⟨(0 : Int), (0 : Int), false, false, false, false, (⟨#[]⟩ : ByteArray), (0 : Int)⟩ : SThing)⟩ : SRec), false)
        else
          bif (!((ByteArray.toList r4.1) == (ByteArray.toList text_0))) then
            some ((⟨(0 : Int), (⟨#[]⟩ : ByteArray), (0 : Int), (⟨(0 : Int), (0 : Int), false, false, false, false, (⟨#[]⟩ : ByteArray), (0 : Int)⟩ : SThing)⟩ : SRec), false)
          else
            some ((⟨(w64 (bt text_0 (0 : Int))), (⟨#[]⟩ : ByteArray), r3.1, (⟨(0 : Int), (0 : Int), false, false, false, false, (⟨#[]⟩ : ByteArray), (0 : Int)⟩ : SThing)⟩ : SRec), true)
    else none
noncomputable def impl_ReadRec (text_0 : ByteArray) : Option (SRec × Bool) := E_impl_ReadRec impl_ReadThing impl_ReadVar impl_RecText text_0
theorem e_impl_ReadRec (impl_ReadThing : ByteArray → Option (SThing × Bool)) (impl_ReadVar : ByteArray → Int → Option (Int × Int × Bool)) (impl_RecText : SRec → Option (ByteArray × Bool)) : EntryIs0 ctx PP 107 [] [(150, H_impl_ReadThing impl_ReadThing), (117, H_impl_ReadVar impl_ReadVar), (63, H_impl_RecText impl_RecText)] cv1 cv119 (fun a => E_impl_ReadRec impl_ReadThing impl_ReadVar impl_RecText a) := fun a => by kernel_rfl
theorem ok_impl_ReadRec : Tells ctx PP 107 cv1 cv119 (fun a => impl_ReadRec a) := fn_ok0 (hl_cons h_impl_ReadThing (hl_cons h_impl_ReadVar (hl_cons h_impl_RecText hl_nil))) Tryd.func107 (e_impl_ReadRec impl_ReadThing impl_ReadVar impl_RecText)
noncomputable def H_impl_ReadRec {γ : Type} (F : ByteArray → Option (SRec × Bool)) : Hd ctx γ := hdl cv1.dec (fun a => F a) cv119.enc
theorem h_impl_ReadRec {γ : Type} : HdOk (γ := γ) PP 107 (H_impl_ReadRec impl_ReadRec) := hd_ok ok_impl_ReadRec
noncomputable def E_impl_Frame (impl_in : Int → Int → Int → Option Bool) (impl_varText : Int → Option ByteArray) (impl_SumOf : ByteArray → Option Int) (impl_fourBytes : Int → Option ByteArray) (text_0 : ByteArray) : Option (ByteArray × Bool) :=
  (impl_in (text_0.size : Int) (1 : Int) (9000 : Int)).bind fun r0 =>
  bif (!r0) then
    some ((⟨#[]⟩ : ByteArray), false)
  else
    (impl_varText (text_0.size : Int)).bind fun r1 =>
    (impl_SumOf text_0).bind fun r2 =>
    (impl_fourBytes r2).bind fun r3 =>
    bif (decide ((r1.size + r3.size) ≤ 9223372036854775807)) then
    bif (decide (((r1 ++ r3).size + text_0.size) ≤ 9223372036854775807)) then
    some (((r1 ++ r3) ++ text_0), true)
    else none
    else none
noncomputable def impl_Frame (text_0 : ByteArray) : Option (ByteArray × Bool) := E_impl_Frame impl_in impl_varText impl_SumOf impl_fourBytes text_0
theorem e_impl_Frame (impl_in : Int → Int → Int → Option Bool) (impl_varText : Int → Option ByteArray) (impl_SumOf : ByteArray → Option Int) (impl_fourBytes : Int → Option ByteArray) : EntryIs0 ctx PP 65 [] [(64, H_impl_in impl_in), (114, H_impl_varText impl_varText), (124, H_impl_SumOf impl_SumOf), (123, H_impl_fourBytes impl_fourBytes)] cv1 cv17 (fun a => E_impl_Frame impl_in impl_varText impl_SumOf impl_fourBytes a) := fun a => by kernel_rfl
theorem ok_impl_Frame : Tells ctx PP 65 cv1 cv17 (fun a => impl_Frame a) := fn_ok0 (hl_cons h_impl_in (hl_cons h_impl_varText (hl_cons h_impl_SumOf (hl_cons h_impl_fourBytes hl_nil)))) Tryd.func65 (e_impl_Frame impl_in impl_varText impl_SumOf impl_fourBytes)
noncomputable def H_impl_Frame {γ : Type} (F : ByteArray → Option (ByteArray × Bool)) : Hd ctx γ := hdl cv1.dec (fun a => F a) cv17.enc
theorem h_impl_Frame {γ : Type} : HdOk (γ := γ) PP 65 (H_impl_Frame impl_Frame) := hd_ok ok_impl_Frame
noncomputable def todo_impl_ReadBook_0 : List Go.Item := [.code (cAt (bodyOf Tryd.f48) [1, 1, 1, 1, 0, 1, 0, 0, 0]), .code (cAt (bodyOf Tryd.f48) [1, 1, 1, 1, 0, 1, 0, 0, 1]), .inLoop (cAt (bodyOf Tryd.f48) [1, 1, 1, 1, 0, 1, 0, 0]), .inBlock 0, .code (cAt (bodyOf Tryd.f48) [1, 1, 1, 1, 1])]
inductive St_impl_ReadBook where
  | c0 (key_0 : ByteArray) (at_9 : Int) (v_24 : Int) (v_25 : Int) (out_8 : (List SRec)) (v_23 : (List ByteArray))
noncomputable def at_impl_ReadBook : St_impl_ReadBook → LI
  | .c0 key_0 at_9 v_24 v_25 out_8 v_23 => (todo_impl_ReadBook_0, [(0, [.one (.str key_0)]), (8, [.one (.own 560)]), (9, [.one (.int .i64 at_9)]), (23, [.one (.own 1520)]), (24, [.one (.int .i64 v_24)]), (25, [.one (.int .i64 v_25)])], [(560, .sl 35 out_8), (1520, .sl 9 v_23)])
noncomputable def E_impl_ReadBook (impl_Unframe : ByteArray → Option ((List ByteArray) × Int)) (impl_OpenText : ByteArray → Int → ByteArray → Option (ByteArray × Bool)) (impl_ReadRec : ByteArray → Option (SRec × Bool)) (impl_Frame : ByteArray → Option (ByteArray × Bool)) (k : St_impl_ReadBook → Option ((List SRec) × Int)) (key_0 : ByteArray) (file_1 : ByteArray) : Option ((List SRec) × Int) :=
  (impl_Unframe file_1).bind fun r0 =>
  k (.c0 key_0 (0 : Int) (r0.1.length : Int) (0 : Int) [] r0.1)
noncomputable def B_impl_ReadBook (impl_Unframe : ByteArray → Option ((List ByteArray) × Int)) (impl_OpenText : ByteArray → Int → ByteArray → Option (ByteArray × Bool)) (impl_ReadRec : ByteArray → Option (SRec × Bool)) (impl_Frame : ByteArray → Option (ByteArray × Bool)) (k : St_impl_ReadBook → Option ((List SRec) × Int)) : St_impl_ReadBook → Option ((List SRec) × Int)
  | .c0 key_0 at_9 v_24 v_25 out_8 v_23 =>
    bif (decide (v_25 < v_24)) then
      bif ((decide (0 ≤ v_25)) && (decide (v_25 < (v_23.length : Int)))) then
      (impl_OpenText key_0 (w64 (v_25 + 1)) (v_23.getD v_25.toNat (⟨#[]⟩ : ByteArray))).bind fun r0 =>
      (impl_ReadRec r0.1).bind fun r1 =>
      bif (!r0.2) then
        some (out_8, at_9)
      else
        bif (!r1.2) then
          some (out_8, at_9)
        else
          bif (decide (((out_8.length + 1) * 80) ≤ 140737488355328)) then
          (impl_Frame (v_23.getD v_25.toNat (⟨#[]⟩ : ByteArray))).bind fun r2 =>
          k (.c0 key_0 (w64 (at_9 + (r2.1.size : Int))) v_24 (w64 (v_25 + 1)) (out_8 ++ [r1.1]) v_23)
          else none
      else none
    else
      some (out_8, at_9)
noncomputable def L_impl_ReadBook : Nat → St_impl_ReadBook → Option ((List SRec) × Int)
  | 0, _ => none
  | m + 1, s => B_impl_ReadBook impl_Unframe impl_OpenText impl_ReadRec impl_Frame (L_impl_ReadBook m) s
noncomputable def impl_ReadBook (key_0 : ByteArray) (file_1 : ByteArray) : Option ((List SRec) × Int) := E_impl_ReadBook impl_Unframe impl_OpenText impl_ReadRec impl_Frame (L_impl_ReadBook gas) key_0 file_1
theorem e_impl_ReadBook (impl_Unframe : ByteArray → Option ((List ByteArray) × Int)) (impl_OpenText : ByteArray → Int → ByteArray → Option (ByteArray × Bool)) (impl_ReadRec : ByteArray → Option (SRec × Bool)) (impl_Frame : ByteArray → Option (ByteArray × Bool)) : EntryIs ctx PP 48 [] [(106, H_impl_Unframe impl_Unframe), (56, H_impl_OpenText impl_OpenText), (107, H_impl_ReadRec impl_ReadRec), (65, H_impl_Frame impl_Frame)] cv15 cv112 at_impl_ReadBook (fun k a => E_impl_ReadBook impl_Unframe impl_OpenText impl_ReadRec impl_Frame k a.1 a.2) := fun stop a => by kernel_rfl
theorem b_impl_ReadBook (impl_Unframe : ByteArray → Option ((List ByteArray) × Int)) (impl_OpenText : ByteArray → Int → ByteArray → Option (ByteArray × Bool)) (impl_ReadRec : ByteArray → Option (SRec × Bool)) (impl_Frame : ByteArray → Option (ByteArray × Bool)) : CutIs ctx PP 48 Tryd.f48 [] [(106, H_impl_Unframe impl_Unframe), (56, H_impl_OpenText impl_OpenText), (107, H_impl_ReadRec impl_ReadRec), (65, H_impl_Frame impl_Frame)] cv112 at_impl_ReadBook (B_impl_ReadBook impl_Unframe impl_OpenText impl_ReadRec impl_Frame) := fun stop s => by cases s <;> kernel_rfl
theorem i_impl_ReadBook : ∀ s s', at_impl_ReadBook s = at_impl_ReadBook s' → s = s' := by
  intro s s' h
  cases s with
  | c0 v0 v1 v2 v3 v4 v5 => cases s' with
    | c0 w0 w1 w2 w3 w4 w5 => cases h; rfl
theorem ok_impl_ReadBook : Tells ctx PP 48 cv15 cv112 (fun a => impl_ReadBook a.1 a.2) := fn_ok (hl_cons h_impl_Unframe (hl_cons h_impl_OpenText (hl_cons h_impl_ReadRec (hl_cons h_impl_Frame hl_nil)))) Tryd.func48 i_impl_ReadBook (fun _ => rfl) (fun _ _ => rfl) (b_impl_ReadBook impl_Unframe impl_OpenText impl_ReadRec impl_Frame) (e_impl_ReadBook impl_Unframe impl_OpenText impl_ReadRec impl_Frame) gas
noncomputable def H_impl_ReadBook {γ : Type} (F : ByteArray → ByteArray → Option ((List SRec) × Int)) : Hd ctx γ := hdl cv15.dec (fun a => F a.1 a.2) cv112.enc
theorem h_impl_ReadBook {γ : Type} : HdOk (γ := γ) PP 48 (H_impl_ReadBook impl_ReadBook) := hd_ok ok_impl_ReadBook
noncomputable def E_laws_eqThing  (a_0 : SThing) (b_1 : SThing) : Option Bool :=
  bif (a_0.fId != b_1.fId) then
    some false
  else
    bif (a_0.fKind != b_1.fKind) then
      some false
    else
      bif (!(a_0.fHidden == b_1.fHidden)) then
        some false
      else
        bif (!(a_0.fFixed == b_1.fFixed)) then
          some false
        else
          bif (!(a_0.fSigns == b_1.fSigns)) then
            some false
          else
            bif (!(a_0.fWraps == b_1.fWraps)) then
              some false
            else
              bif (!((ByteArray.toList a_0.fValue) == (ByteArray.toList b_1.fValue))) then
                some false
              else
                bif (a_0.fNext != b_1.fNext) then
                  some false
                else
                  some true
noncomputable def laws_eqThing (a_0 : SThing) (b_1 : SThing) : Option Bool := E_laws_eqThing  a_0 b_1
theorem e_laws_eqThing  : EntryIs0 ctx PP 126 [] [] cv45 cv3 (fun a => E_laws_eqThing  a.1 a.2) := fun a => by kernel_rfl
theorem ok_laws_eqThing : Tells ctx PP 126 cv45 cv3 (fun a => laws_eqThing a.1 a.2) := fn_ok0 hl_nil Tryd.func126 (e_laws_eqThing )
noncomputable def H_laws_eqThing {γ : Type} (F : SThing → SThing → Option Bool) : Hd ctx γ := hdl cv45.dec (fun a => F a.1 a.2) cv3.enc
theorem h_laws_eqThing {γ : Type} : HdOk (γ := γ) PP 126 (H_laws_eqThing laws_eqThing) := hd_ok ok_laws_eqThing
noncomputable def E_laws_eqRec (laws_eqThing : SThing → SThing → Option Bool) (a_0 : SRec) (b_1 : SRec) : Option Bool :=
  bif (a_0.fKind != b_1.fKind) then
    some false
  else
    bif (!((ByteArray.toList a_0.fText) == (ByteArray.toList b_1.fText))) then
      some false
    else
      bif (a_0.fNum != b_1.fNum) then
        some false
      else
        (laws_eqThing a_0.fThing b_1.fThing).bind fun r0 =>
        bif (!r0) then
          some false
        else
          some true
noncomputable def laws_eqRec (a_0 : SRec) (b_1 : SRec) : Option Bool := E_laws_eqRec laws_eqThing a_0 b_1
theorem e_laws_eqRec (laws_eqThing : SThing → SThing → Option Bool) : EntryIs0 ctx PP 72 [] [(126, H_laws_eqThing laws_eqThing)] cv53 cv3 (fun a => E_laws_eqRec laws_eqThing a.1 a.2) := fun a => by kernel_rfl
theorem ok_laws_eqRec : Tells ctx PP 72 cv53 cv3 (fun a => laws_eqRec a.1 a.2) := fn_ok0 (hl_cons h_laws_eqThing hl_nil) Tryd.func72 (e_laws_eqRec laws_eqThing)
noncomputable def H_laws_eqRec {γ : Type} (F : SRec → SRec → Option Bool) : Hd ctx γ := hdl cv53.dec (fun a => F a.1 a.2) cv3.enc
theorem h_laws_eqRec {γ : Type} : HdOk (γ := γ) PP 72 (H_laws_eqRec laws_eqRec) := hd_ok ok_laws_eqRec
noncomputable def todo_laws_eqRecS_0 : List Go.Item := [.code (cAt (bodyOf Tryd.f27) [1, 1, 0, 1, 0, 0, 0, 0]), .code (cAt (bodyOf Tryd.f27) [1, 1, 0, 1, 0, 0, 0, 1]), .code (cAt (bodyOf Tryd.f27) [1, 1, 0, 1, 0, 0, 1]), .inLoop (cAt (bodyOf Tryd.f27) [1, 1, 0, 1, 0, 0]), .inBlock 0, .code (cAt (bodyOf Tryd.f27) [1, 1, 1])]
inductive St_laws_eqRecS where
  | c0 (a_0 : (List SRec)) (b_1 : (List SRec)) (i_5 : Int)
noncomputable def at_laws_eqRecS : St_laws_eqRecS → LI
  | .c0 a_0 b_1 i_5 => (todo_laws_eqRecS_0, [(0, [.one (.rsl 35 a_0)]), (1, [.one (.rsl 35 b_1)]), (5, [.one (.int .i64 i_5)])], [])
noncomputable def E_laws_eqRecS (laws_eqRec : SRec → SRec → Option Bool) (k : St_laws_eqRecS → Option Bool) (a_0 : (List SRec)) (b_1 : (List SRec)) : Option Bool :=
  bif ((a_0.length : Int) != (b_1.length : Int)) then
    some false
  else
    k (.c0 a_0 b_1 (0 : Int))
noncomputable def B_laws_eqRecS (laws_eqRec : SRec → SRec → Option Bool) (k : St_laws_eqRecS → Option Bool) : St_laws_eqRecS → Option Bool
  | .c0 a_0 b_1 i_5 =>
    bif (decide (i_5 < (a_0.length : Int))) then
      bif ((decide (0 ≤ i_5)) && (decide (i_5 < (a_0.length : Int)))) then
      bif ((decide (0 ≤ i_5)) && (decide (i_5 < (b_1.length : Int)))) then
      (laws_eqRec (a_0.getD i_5.toNat (⟨(0 : Int), (⟨#[]⟩ : ByteArray), (0 : Int), (⟨(0 : Int), (0 : Int), false, false, false, false, (⟨#[]⟩ : ByteArray), (0 : Int)⟩ : SThing)⟩ : SRec)) (b_1.getD i_5.toNat (⟨(0 : Int), (⟨#[]⟩ : ByteArray), (0 : Int), (⟨(0 : Int), (0 : Int), false, false, false, false, (⟨#[]⟩ : ByteArray), (0 : Int)⟩ : SThing)⟩ : SRec))).bind fun r0 =>
      bif (!r0) then
        some false
      else
        k (.c0 a_0 b_1 (w64 (i_5 + 1)))
      else none
      else none
    else
      some true
noncomputable def L_laws_eqRecS : Nat → St_laws_eqRecS → Option Bool
  | 0, _ => none
  | m + 1, s => B_laws_eqRecS laws_eqRec (L_laws_eqRecS m) s
noncomputable def laws_eqRecS (a_0 : (List SRec)) (b_1 : (List SRec)) : Option Bool := E_laws_eqRecS laws_eqRec (L_laws_eqRecS gas) a_0 b_1
theorem e_laws_eqRecS (laws_eqRec : SRec → SRec → Option Bool) : EntryIs ctx PP 27 [] [(72, H_laws_eqRec laws_eqRec)] cv54 cv3 at_laws_eqRecS (fun k a => E_laws_eqRecS laws_eqRec k a.1 a.2) := fun stop a => by kernel_rfl
theorem b_laws_eqRecS (laws_eqRec : SRec → SRec → Option Bool) : CutIs ctx PP 27 Tryd.f27 [] [(72, H_laws_eqRec laws_eqRec)] cv3 at_laws_eqRecS (B_laws_eqRecS laws_eqRec) := fun stop s => by cases s <;> kernel_rfl
theorem i_laws_eqRecS : ∀ s s', at_laws_eqRecS s = at_laws_eqRecS s' → s = s' := by
  intro s s' h
  cases s with
  | c0 v0 v1 v2 => cases s' with
    | c0 w0 w1 w2 => cases h; rfl
theorem ok_laws_eqRecS : Tells ctx PP 27 cv54 cv3 (fun a => laws_eqRecS a.1 a.2) := fn_ok (hl_cons h_laws_eqRec hl_nil) Tryd.func27 i_laws_eqRecS (fun _ => rfl) (fun _ _ => rfl) (b_laws_eqRecS laws_eqRec) (e_laws_eqRecS laws_eqRec) gas
noncomputable def H_laws_eqRecS {γ : Type} (F : (List SRec) → (List SRec) → Option Bool) : Hd ctx γ := hdl cv54.dec (fun a => F a.1 a.2) cv3.enc
theorem h_laws_eqRecS {γ : Type} : HdOk (γ := γ) PP 27 (H_laws_eqRecS laws_eqRecS) := hd_ok ok_laws_eqRecS
noncomputable def todo_laws_markText_0 : List Go.Item := [.code (cAt (bodyOf Tryd.f67) [1, 1, 1, 0, 0, 0, 0, 0]), .code (cAt (bodyOf Tryd.f67) [1, 1, 1, 0, 0, 0, 0, 1]), .code (cAt (bodyOf Tryd.f67) [1, 1, 1, 0, 0, 0, 1]), .inLoop (cAt (bodyOf Tryd.f67) [1, 1, 1, 0, 0, 0]), .inBlock 0, .code (cAt (bodyOf Tryd.f67) [1, 1, 1, 1])]
inductive St_laws_markText where
  | c0 (k_0 : Int) (out_3 : ByteArray)
noncomputable def at_laws_markText : St_laws_markText → LI
  | .c0 k_0 out_3 => (todo_laws_markText_0, [(0, [.one (.int .i64 k_0)]), (3, [.one (.str out_3)])], [])
noncomputable def E_laws_markText  (k : St_laws_markText → Option ByteArray) (k_0 : Int) : Option ByteArray :=
  bif (decide (k_0 ≤ 0)) then
    some (⟨#[109, 48]⟩ : ByteArray)
  else
    k (.c0 k_0 (⟨#[]⟩ : ByteArray))
noncomputable def B_laws_markText  (k : St_laws_markText → Option ByteArray) : St_laws_markText → Option ByteArray
  | .c0 k_0 out_3 =>
    bif (decide (k_0 > 0)) then
      bif (decide (((ofBytes [(w8 (w64 (48 + (k_0.tmod 10))))]).size + out_3.size) ≤ 9223372036854775807)) then
      k (.c0 (w64 (k_0.tdiv 10)) ((ofBytes [(w8 (w64 (48 + (k_0.tmod 10))))]) ++ out_3))
      else none
    else
      bif (decide (((⟨#[109]⟩ : ByteArray).size + out_3.size) ≤ 9223372036854775807)) then
      some ((⟨#[109]⟩ : ByteArray) ++ out_3)
      else none
noncomputable def L_laws_markText : Nat → St_laws_markText → Option ByteArray
  | 0, _ => none
  | m + 1, s => B_laws_markText  (L_laws_markText m) s
noncomputable def laws_markText (k_0 : Int) : Option ByteArray := E_laws_markText  (L_laws_markText gas) k_0
theorem e_laws_markText  : EntryIs ctx PP 67 [] [] cv0 cv1 at_laws_markText (fun k a => E_laws_markText  k a) := fun stop a => by kernel_rfl
theorem b_laws_markText  : CutIs ctx PP 67 Tryd.f67 [] [] cv1 at_laws_markText (B_laws_markText ) := fun stop s => by cases s <;> kernel_rfl
theorem i_laws_markText : ∀ s s', at_laws_markText s = at_laws_markText s' → s = s' := by
  intro s s' h
  cases s with
  | c0 v0 v1 => cases s' with
    | c0 w0 w1 => cases h; rfl
theorem ok_laws_markText : Tells ctx PP 67 cv0 cv1 (fun a => laws_markText a) := fn_ok hl_nil Tryd.func67 i_laws_markText (fun _ => rfl) (fun _ _ => rfl) (b_laws_markText ) (e_laws_markText ) gas
noncomputable def H_laws_markText {γ : Type} (F : Int → Option ByteArray) : Hd ctx γ := hdl cv0.dec (fun a => F a) cv1.enc
theorem h_laws_markText {γ : Type} : HdOk (γ := γ) PP 67 (H_laws_markText laws_markText) := hd_ok ok_laws_markText
noncomputable def todo_laws_markRecS_0 : List Go.Item := [.code (cAt (bodyOf Tryd.f46) [1, 0, 1, 0, 0, 0, 0]), .code (cAt (bodyOf Tryd.f46) [1, 0, 1, 0, 0, 0, 1]), .code (cAt (bodyOf Tryd.f46) [1, 0, 1, 0, 0, 1]), .inLoop (cAt (bodyOf Tryd.f46) [1, 0, 1, 0, 0]), .inBlock 0, .code (cAt (bodyOf Tryd.f46) [1, 1])]
noncomputable def todo_laws_markRecS_1 : List Go.Item := [.code (cAt (bodyOf Tryd.f46) [1, 0, 1, 0, 0, 1, 0, 0, 1, 1, 0]), .code (cAt (bodyOf Tryd.f46) [1, 0, 1, 0, 0, 1, 0, 0, 1, 1, 1]), .inBlock 1, .code (cAt (bodyOf Tryd.f46) [1, 0, 1, 0, 0, 1, 1]), .inLoop (cAt (bodyOf Tryd.f46) [1, 0, 1, 0, 0]), .inBlock 0, .code (cAt (bodyOf Tryd.f46) [1, 1])]
noncomputable def todo_laws_markRecS_2 : List Go.Item := [.code (cAt (bodyOf Tryd.f46) [1, 0, 1, 0, 0, 1, 0, 0, 1, 1, 1, 1, 0]), .code (cAt (bodyOf Tryd.f46) [1, 0, 1, 0, 0, 1, 0, 0, 1, 1, 1, 1, 1]), .inBlock 1, .code (cAt (bodyOf Tryd.f46) [1, 0, 1, 0, 0, 1, 1]), .inLoop (cAt (bodyOf Tryd.f46) [1, 0, 1, 0, 0]), .inBlock 0, .code (cAt (bodyOf Tryd.f46) [1, 1])]
noncomputable def todo_laws_markRecS_3 : List Go.Item := [.code (cAt (bodyOf Tryd.f46) [1, 0, 1, 0, 0, 1, 0, 0, 1, 1, 1, 1, 1, 1, 0]), .code (cAt (bodyOf Tryd.f46) [1, 0, 1, 0, 0, 1, 0, 0, 1, 1, 1, 1, 1, 1, 1]), .inBlock 1, .code (cAt (bodyOf Tryd.f46) [1, 0, 1, 0, 0, 1, 1]), .inLoop (cAt (bodyOf Tryd.f46) [1, 0, 1, 0, 0]), .inBlock 0, .code (cAt (bodyOf Tryd.f46) [1, 1])]
noncomputable def todo_laws_markRecS_4 : List Go.Item := [.code (cAt (bodyOf Tryd.f46) [1, 0, 1, 0, 0, 1, 0, 0, 1, 1, 1, 1, 1, 1, 1, 1, 0]), .code (cAt (bodyOf Tryd.f46) [1, 0, 1, 0, 0, 1, 0, 0, 1, 1, 1, 1, 1, 1, 1, 1, 1]), .inBlock 1, .code (cAt (bodyOf Tryd.f46) [1, 0, 1, 0, 0, 1, 1]), .inLoop (cAt (bodyOf Tryd.f46) [1, 0, 1, 0, 0]), .inBlock 0, .code (cAt (bodyOf Tryd.f46) [1, 1])]
noncomputable def todo_laws_markRecS_5 : List Go.Item := [.code (cAt (bodyOf Tryd.f46) [1, 0, 1, 0, 0, 1, 0, 0, 1, 1, 1, 1, 1, 1, 1, 1, 1, 1, 0]), .code (cAt (bodyOf Tryd.f46) [1, 0, 1, 0, 0, 1, 0, 0, 1, 1, 1, 1, 1, 1, 1, 1, 1, 1, 1]), .inBlock 1, .code (cAt (bodyOf Tryd.f46) [1, 0, 1, 0, 0, 1, 1]), .inLoop (cAt (bodyOf Tryd.f46) [1, 0, 1, 0, 0]), .inBlock 0, .code (cAt (bodyOf Tryd.f46) [1, 1])]
noncomputable def todo_laws_markRecS_6 : List Go.Item := [.code (cAt (bodyOf Tryd.f46) [1, 0, 1, 0, 0, 1, 0, 0, 1, 1, 1, 1, 1, 1, 1, 1, 1, 1, 1, 1, 0]), .code (cAt (bodyOf Tryd.f46) [1, 0, 1, 0, 0, 1, 0, 0, 1, 1, 1, 1, 1, 1, 1, 1, 1, 1, 1, 1, 1]), .inBlock 1, .code (cAt (bodyOf Tryd.f46) [1, 0, 1, 0, 0, 1, 1]), .inLoop (cAt (bodyOf Tryd.f46) [1, 0, 1, 0, 0]), .inBlock 0, .code (cAt (bodyOf Tryd.f46) [1, 1])]
noncomputable def todo_laws_markRecS_7 : List Go.Item := [.code (cAt (bodyOf Tryd.f46) [1, 0, 1, 0, 0, 1, 0, 0, 1, 1, 1, 1, 1, 1, 1, 1, 1, 1, 1, 1, 1, 1, 0]), .code (cAt (bodyOf Tryd.f46) [1, 0, 1, 0, 0, 1, 0, 0, 1, 1, 1, 1, 1, 1, 1, 1, 1, 1, 1, 1, 1, 1, 1]), .inBlock 1, .code (cAt (bodyOf Tryd.f46) [1, 0, 1, 0, 0, 1, 1]), .inLoop (cAt (bodyOf Tryd.f46) [1, 0, 1, 0, 0]), .inBlock 0, .code (cAt (bodyOf Tryd.f46) [1, 1])]
noncomputable def todo_laws_markRecS_8 : List Go.Item := [.code (cAt (bodyOf Tryd.f46) [1, 0, 1, 0, 0, 1, 0, 0, 1, 1, 1, 1, 1, 1, 1, 1, 1, 1, 1, 1, 1, 1, 1, 1, 0]), .code (cAt (bodyOf Tryd.f46) [1, 0, 1, 0, 0, 1, 0, 0, 1, 1, 1, 1, 1, 1, 1, 1, 1, 1, 1, 1, 1, 1, 1, 1, 1]), .inBlock 1, .code (cAt (bodyOf Tryd.f46) [1, 0, 1, 0, 0, 1, 1]), .inLoop (cAt (bodyOf Tryd.f46) [1, 0, 1, 0, 0]), .inBlock 0, .code (cAt (bodyOf Tryd.f46) [1, 1])]
noncomputable def todo_laws_markRecS_9 : List Go.Item := [.code (cAt (bodyOf Tryd.f46) [1, 0, 1, 0, 0, 1, 0, 0, 1, 1, 1, 1, 1, 1, 1, 1, 1, 1, 1, 1, 1, 1, 1, 1, 1, 1, 0]), .code (cAt (bodyOf Tryd.f46) [1, 0, 1, 0, 0, 1, 0, 0, 1, 1, 1, 1, 1, 1, 1, 1, 1, 1, 1, 1, 1, 1, 1, 1, 1, 1, 1]), .inBlock 1, .code (cAt (bodyOf Tryd.f46) [1, 0, 1, 0, 0, 1, 1]), .inLoop (cAt (bodyOf Tryd.f46) [1, 0, 1, 0, 0]), .inBlock 0, .code (cAt (bodyOf Tryd.f46) [1, 1])]
noncomputable def todo_laws_markRecS_10 : List Go.Item := [.code (cAt (bodyOf Tryd.f46) [1, 0, 1, 0, 0, 1, 0, 0, 1, 1, 1, 1, 1, 1, 1, 1, 1, 1, 1, 1, 1, 1, 1, 1, 1, 1, 1, 1, 0]), .code (cAt (bodyOf Tryd.f46) [1, 0, 1, 0, 0, 1, 0, 0, 1, 1, 1, 1, 1, 1, 1, 1, 1, 1, 1, 1, 1, 1, 1, 1, 1, 1, 1, 1, 1]), .inBlock 1, .code (cAt (bodyOf Tryd.f46) [1, 0, 1, 0, 0, 1, 1]), .inLoop (cAt (bodyOf Tryd.f46) [1, 0, 1, 0, 0]), .inBlock 0, .code (cAt (bodyOf Tryd.f46) [1, 1])]
inductive St_laws_markRecS where
  | c0 (k_1 : Int) (i_5 : Int) (a_0r1 : (List SRec))
  | c1 (k_1 : Int) (i_5 : Int) (a_0r1 : (List SRec))
  | c2 (k_1 : Int) (i_5 : Int) (a_0r1 : (List SRec))
  | c3 (k_1 : Int) (i_5 : Int) (a_0r1 : (List SRec))
  | c4 (k_1 : Int) (i_5 : Int) (a_0r1 : (List SRec))
  | c5 (k_1 : Int) (i_5 : Int) (a_0r1 : (List SRec))
  | c6 (k_1 : Int) (i_5 : Int) (a_0r1 : (List SRec))
  | c7 (k_1 : Int) (i_5 : Int) (a_0r1 : (List SRec))
  | c8 (k_1 : Int) (i_5 : Int) (a_0r1 : (List SRec))
  | c9 (k_1 : Int) (i_5 : Int) (a_0r1 : (List SRec))
  | c10 (k_1 : Int) (i_5 : Int) (a_0r1 : (List SRec))
noncomputable def at_laws_markRecS : St_laws_markRecS → LI
  | .c0 k_1 i_5 a_0r1 => (todo_laws_markRecS_0, [(0, [.one (.own 1)]), (1, [.one (.int .i64 k_1)]), (5, [.one (.int .i64 i_5)])], [(1, .io 35 a_0r1)])
  | .c1 k_1 i_5 a_0r1 => (todo_laws_markRecS_1, [(0, [.one (.own 1)]), (1, [.one (.int .i64 k_1)]), (5, [.one (.int .i64 i_5)])], [(1, .io 35 a_0r1)])
  | .c2 k_1 i_5 a_0r1 => (todo_laws_markRecS_2, [(0, [.one (.own 1)]), (1, [.one (.int .i64 k_1)]), (5, [.one (.int .i64 i_5)])], [(1, .io 35 a_0r1)])
  | .c3 k_1 i_5 a_0r1 => (todo_laws_markRecS_3, [(0, [.one (.own 1)]), (1, [.one (.int .i64 k_1)]), (5, [.one (.int .i64 i_5)])], [(1, .io 35 a_0r1)])
  | .c4 k_1 i_5 a_0r1 => (todo_laws_markRecS_4, [(0, [.one (.own 1)]), (1, [.one (.int .i64 k_1)]), (5, [.one (.int .i64 i_5)])], [(1, .io 35 a_0r1)])
  | .c5 k_1 i_5 a_0r1 => (todo_laws_markRecS_5, [(0, [.one (.own 1)]), (1, [.one (.int .i64 k_1)]), (5, [.one (.int .i64 i_5)])], [(1, .io 35 a_0r1)])
  | .c6 k_1 i_5 a_0r1 => (todo_laws_markRecS_6, [(0, [.one (.own 1)]), (1, [.one (.int .i64 k_1)]), (5, [.one (.int .i64 i_5)])], [(1, .io 35 a_0r1)])
  | .c7 k_1 i_5 a_0r1 => (todo_laws_markRecS_7, [(0, [.one (.own 1)]), (1, [.one (.int .i64 k_1)]), (5, [.one (.int .i64 i_5)])], [(1, .io 35 a_0r1)])
  | .c8 k_1 i_5 a_0r1 => (todo_laws_markRecS_8, [(0, [.one (.own 1)]), (1, [.one (.int .i64 k_1)]), (5, [.one (.int .i64 i_5)])], [(1, .io 35 a_0r1)])
  | .c9 k_1 i_5 a_0r1 => (todo_laws_markRecS_9, [(0, [.one (.own 1)]), (1, [.one (.int .i64 k_1)]), (5, [.one (.int .i64 i_5)])], [(1, .io 35 a_0r1)])
  | .c10 k_1 i_5 a_0r1 => (todo_laws_markRecS_10, [(0, [.one (.own 1)]), (1, [.one (.int .i64 k_1)]), (5, [.one (.int .i64 i_5)])], [(1, .io 35 a_0r1)])
noncomputable def E_laws_markRecS (laws_markText : Int → Option ByteArray) (k : St_laws_markRecS → Option (Int × (List SRec))) (a_0 : (List SRec)) (k_1 : Int) : Option (Int × (List SRec)) :=
  k (.c0 k_1 (0 : Int) a_0)
noncomputable def B_laws_markRecS (laws_markText : Int → Option ByteArray) (k : St_laws_markRecS → Option (Int × (List SRec))) : St_laws_markRecS → Option (Int × (List SRec))
  | .c0 k_1 i_5 a_0r1 =>
    bif (decide (i_5 < (a_0r1.length : Int))) then
      bif ((decide (0 ≤ i_5)) && (decide (i_5 < (a_0r1.length : Int)))) then
      k (.c1 (w64 (k_1 + 1)) i_5 (a_0r1.set i_5.toNat (⟨k_1, (a_0r1.getD i_5.toNat (⟨(0 : Int), (⟨#[]⟩ : ByteArray), (0 : Int), (⟨(0 : Int), (0 : Int), false, false, false, false, (⟨#[]⟩ : ByteArray), (0 : Int)⟩ : SThing)⟩ : SRec)).fText, (a_0r1.getD i_5.toNat (⟨(0 : Int), (⟨#[]⟩ : ByteArray), (0 : Int), (⟨(0 : Int), (0 : Int), false, false, false, false, (⟨#[]⟩ : ByteArray), (0 : Int)⟩ : SThing)⟩ : SRec)).fNum, (a_0r1.getD i_5.toNat (⟨(0 : Int), (⟨#[]⟩ : ByteArray), (0 : Int), (⟨(0 : Int), (0 : Int), false, false, false, false, (⟨#[]⟩ : ByteArray), (0 : Int)⟩ : SThing)⟩ : SRec)).fThing⟩ : SRec)))
      else none
    else
      some (k_1, a_0r1)
  | .c1 k_1 i_5 a_0r1 =>
    (laws_markText k_1).bind fun r0 =>
    bif ((decide (0 ≤ i_5)) && (decide (i_5 < (a_0r1.length : Int)))) then
    k (.c2 (w64 (k_1 + 1)) i_5 (a_0r1.set i_5.toNat (⟨(a_0r1.getD i_5.toNat (⟨(0 : Int), (⟨#[]⟩ : ByteArray), (0 : Int), (⟨(0 : Int), (0 : Int), false, false, false, false, (⟨#[]⟩ : ByteArray), (0 : Int)⟩ : SThing)⟩ : SRec)).fKind, r0, (a_0r1.getD i_5.toNat (⟨(0 : Int), (⟨#[]⟩ : ByteArray), (0 : Int), (⟨(0 : Int), (0 : Int), false, false, false, false, (⟨#[]⟩ : ByteArray), (0 : Int)⟩ : SThing)⟩ : SRec)).fNum, (a_0r1.getD i_5.toNat (⟨(0 : Int), (⟨#[]⟩ : ByteArray), (0 : Int), (⟨(0 : Int), (0 : Int), false, false, false, false, (⟨#[]⟩ : ByteArray), (0 : Int)⟩ : SThing)⟩ : SRec)).fThing⟩ : SRec)))
    else none
  | .c2 k_1 i_5 a_0r1 =>
    bif ((decide (0 ≤ i_5)) && (decide (i_5 < (a_0r1.length : Int)))) then
    k (.c3 (w64 (k_1 + 1)) i_5 (a_0r1.set i_5.toNat (⟨(a_0r1.getD i_5.toNat (⟨(0 : Int), (⟨#[]⟩ : ByteArray), (0 : Int), (⟨(0 : Int), (0 : Int), false, false, false, false, (⟨#[]⟩ : ByteArray), (0 : Int)⟩ : SThing)⟩ : SRec)).fKind, (a_0r1.getD i_5.toNat (⟨(0 : Int), (⟨#[]⟩ : ByteArray), (0 : Int), (⟨(0 : Int), (0 : Int), false, false, false, false, (⟨#[]⟩ : ByteArray), (0 : Int)⟩ : SThing)⟩ : SRec)).fText, k_1, (a_0r1.getD i_5.toNat (⟨(0 : Int), (⟨#[]⟩ : ByteArray), (0 : Int), (⟨(0 : Int), (0 : Int), false, false, false, false, (⟨#[]⟩ : ByteArray), (0 : Int)⟩ : SThing)⟩ : SRec)).fThing⟩ : SRec)))
    else none
  | .c3 k_1 i_5 a_0r1 =>
    bif ((decide (0 ≤ i_5)) && (decide (i_5 < (a_0r1.length : Int)))) then
    k (.c4 (w64 (k_1 + 1)) i_5 (a_0r1.set i_5.toNat (⟨(a_0r1.getD i_5.toNat (⟨(0 : Int), (⟨#[]⟩ : ByteArray), (0 : Int), (⟨(0 : Int), (0 : Int), false, false, false, false, (⟨#[]⟩ : ByteArray), (0 : Int)⟩ : SThing)⟩ : SRec)).fKind, (a_0r1.getD i_5.toNat (⟨(0 : Int), (⟨#[]⟩ : ByteArray), (0 : Int), (⟨(0 : Int), (0 : Int), false, false, false, false, (⟨#[]⟩ : ByteArray), (0 : Int)⟩ : SThing)⟩ : SRec)).fText, (a_0r1.getD i_5.toNat (⟨(0 : Int), (⟨#[]⟩ : ByteArray), (0 : Int), (⟨(0 : Int), (0 : Int), false, false, false, false, (⟨#[]⟩ : ByteArray), (0 : Int)⟩ : SThing)⟩ : SRec)).fNum, (⟨k_1, (a_0r1.getD i_5.toNat (⟨(0 : Int), (⟨#[]⟩ : ByteArray), (0 : Int), (⟨(0 : Int), (0 : Int), false, false, false, false, (⟨#[]⟩ : ByteArray), (0 : Int)⟩ : SThing)⟩ : SRec)).fThing.fKind, (a_0r1.getD i_5.toNat (⟨(0 : Int), (⟨#[]⟩ : ByteArray), (0 : Int), (⟨(0 : Int), (0 : Int), false, false, false, false, (⟨#[]⟩ : ByteArray), (0 : Int)⟩ : SThing)⟩ : SRec)).fThing.fHidden, (a_0r1.getD i_5.toNat (⟨(0 : Int), (⟨#[]⟩ : ByteArray), (0 : Int), (⟨(0 : Int), (0 : Int), false, false, false, false, (⟨#[]⟩ : ByteArray), (0 : Int)⟩ : SThing)⟩ : SRec)).fThing.fFixed, (a_0r1.getD i_5.toNat (⟨(0 : Int), (⟨#[]⟩ : ByteArray), (0 : Int), (⟨(0 : Int), (0 : Int), false, false, false, false, (⟨#[]⟩ : ByteArray), (0 : Int)⟩ : SThing)⟩ : SRec)).fThing.fSigns, (a_0r1.getD i_5.toNat (⟨(0 : Int), (⟨#[]⟩ : ByteArray), (0 : Int), (⟨(0 : Int), (0 : Int), false, false, false, false, (⟨#[]⟩ : ByteArray), (0 : Int)⟩ : SThing)⟩ : SRec)).fThing.fWraps, (a_0r1.getD i_5.toNat (⟨(0 : Int), (⟨#[]⟩ : ByteArray), (0 : Int), (⟨(0 : Int), (0 : Int), false, false, false, false, (⟨#[]⟩ : ByteArray), (0 : Int)⟩ : SThing)⟩ : SRec)).fThing.fValue, (a_0r1.getD i_5.toNat (⟨(0 : Int), (⟨#[]⟩ : ByteArray), (0 : Int), (⟨(0 : Int), (0 : Int), false, false, false, false, (⟨#[]⟩ : ByteArray), (0 : Int)⟩ : SThing)⟩ : SRec)).fThing.fNext⟩ : SThing)⟩ : SRec)))
    else none
  | .c4 k_1 i_5 a_0r1 =>
    bif ((decide (0 ≤ i_5)) && (decide (i_5 < (a_0r1.length : Int)))) then
    k (.c5 (w64 (k_1 + 1)) i_5 (a_0r1.set i_5.toNat (⟨(a_0r1.getD i_5.toNat (⟨(0 : Int), (⟨#[]⟩ : ByteArray), (0 : Int), (⟨(0 : Int), (0 : Int), false, false, false, false, (⟨#[]⟩ : ByteArray), (0 : Int)⟩ : SThing)⟩ : SRec)).fKind, (a_0r1.getD i_5.toNat (⟨(0 : Int), (⟨#[]⟩ : ByteArray), (0 : Int), (⟨(0 : Int), (0 : Int), false, false, false, false, (⟨#[]⟩ : ByteArray), (0 : Int)⟩ : SThing)⟩ : SRec)).fText, (a_0r1.getD i_5.toNat (⟨(0 : Int), (⟨#[]⟩ : ByteArray), (0 : Int), (⟨(0 : Int), (0 : Int), false, false, false, false, (⟨#[]⟩ : ByteArray), (0 : Int)⟩ : SThing)⟩ : SRec)).fNum, (⟨(a_0r1.getD i_5.toNat (⟨(0 : Int), (⟨#[]⟩ : ByteArray), (0 : Int), (⟨(0 : Int), (0 : Int), false, false, false, false, (⟨#[]⟩ : ByteArray), (0 : Int)⟩ : SThing)⟩ : SRec)).fThing.fId, k_1, (a_0r1.getD i_5.toNat (⟨(0 : Int), (⟨#[]⟩ : ByteArray), (0 : Int), (⟨(0 : Int), (0 : Int), false, false, false, false, (⟨#[]⟩ : ByteArray), (0 : Int)⟩ : SThing)⟩ : SRec)).fThing.fHidden, (a_0r1.getD i_5.toNat (⟨(0 : Int), (⟨#[]⟩ : ByteArray), (0 : Int), (⟨(0 : Int), (0 : Int), false, false, false, false, (⟨#[]⟩ : ByteArray), (0 : Int)⟩ : SThing)⟩ : SRec)).fThing.fFixed, (a_0r1.getD i_5.toNat (⟨(0 : Int), (⟨#[]⟩ : ByteArray), (0 : Int), (⟨(0 : Int), (0 : Int), false, false, false, false, (⟨#[]⟩ : ByteArray), (0 : Int)⟩ : SThing)⟩ : SRec)).fThing.fSigns, (a_0r1.getD i_5.toNat (⟨(0 : Int), (⟨#[]⟩ : ByteArray), (0 : Int), (⟨(0 : Int), (0 : Int), false, false, false, false, (⟨#[]⟩ : ByteArray), (0 : Int)⟩ : SThing)⟩ : SRec)).fThing.fWraps, (a_0r1.getD i_5.toNat (⟨(0 : Int), (⟨#[]⟩ : ByteArray), (0 : Int), (⟨(0 : Int), (0 : Int), false, false, false, false, (⟨#[]⟩ : ByteArray), (0 : Int)⟩ : SThing)⟩ : SRec)).fThing.fValue, (a_0r1.getD i_5.toNat (⟨(0 : Int), (⟨#[]⟩ : ByteArray), (0 : Int), (⟨(0 : Int), (0 : Int), false, false, false, false, (⟨#[]⟩ : ByteArray), (0 : Int)⟩ : SThing)⟩ : SRec)).fThing.fNext⟩ : SThing)⟩ : SRec)))
    else none
  | .c5 k_1 i_5 a_0r1 =>
    bif ((decide (0 ≤ i_5)) && (decide (i_5 < (a_0r1.length : Int)))) then
    k (.c6 (w64 (k_1 + 1)) i_5 (a_0r1.set i_5.toNat (⟨(a_0r1.getD i_5.toNat (⟨(0 : Int), (⟨#[]⟩ : ByteArray), (0 : Int), (⟨(0 : Int), (0 : Int), false, false, false, false, (⟨#[]⟩ : ByteArray), (0 : Int)⟩ : SThing)⟩ : SRec)).fKind, (a_0r1.getD i_5.toNat (⟨(0 : Int), (⟨#[]⟩ : ByteArray), (0 : Int), (⟨(0 : Int), (0 : Int), false, false, false, false, (⟨#[]⟩ : ByteArray), (0 : Int)⟩ : SThing)⟩ : SRec)).fText, (a_0r1.getD i_5.toNat (⟨(0 : Int), (⟨#[]⟩ : ByteArray), (0 : Int), (⟨(0 : Int), (0 : Int), false, false, false, false, (⟨#[]⟩ : ByteArray), (0 : Int)⟩ : SThing)⟩ : SRec)).fNum, (⟨(a_0r1.getD i_5.toNat (⟨(0 : Int), (⟨#[]⟩ : ByteArray), (0 : Int), (⟨(0 : Int), (0 : Int), false, false, false, false, (⟨#[]⟩ : ByteArray), (0 : Int)⟩ : SThing)⟩ : SRec)).fThing.fId, (a_0r1.getD i_5.toNat (⟨(0 : Int), (⟨#[]⟩ : ByteArray), (0 : Int), (⟨(0 : Int), (0 : Int), false, false, false, false, (⟨#[]⟩ : ByteArray), (0 : Int)⟩ : SThing)⟩ : SRec)).fThing.fKind, ((k_1.tmod 3) == 0), (a_0r1.getD i_5.toNat (⟨(0 : Int), (⟨#[]⟩ : ByteArray), (0 : Int), (⟨(0 : Int), (0 : Int), false, false, false, false, (⟨#[]⟩ : ByteArray), (0 : Int)⟩ : SThing)⟩ : SRec)).fThing.fFixed, (a_0r1.getD i_5.toNat (⟨(0 : Int), (⟨#[]⟩ : ByteArray), (0 : Int), (⟨(0 : Int), (0 : Int), false, false, false, false, (⟨#[]⟩ : ByteArray), (0 : Int)⟩ : SThing)⟩ : SRec)).fThing.fSigns, (a_0r1.getD i_5.toNat (⟨(0 : Int), (⟨#[]⟩ : ByteArray), (0 : Int), (⟨(0 : Int), (0 : Int), false, false, false, false, (⟨#[]⟩ : ByteArray), (0 : Int)⟩ : SThing)⟩ : SRec)).fThing.fWraps, (a_0r1.getD i_5.toNat (⟨(0 : Int), (⟨#[]⟩ : ByteArray), (0 : Int), (⟨(0 : Int), (0 : Int), false, false, false, false, (⟨#[]⟩ : ByteArray), (0 : Int)⟩ : SThing)⟩ : SRec)).fThing.fValue, (a_0r1.getD i_5.toNat (⟨(0 : Int), (⟨#[]⟩ : ByteArray), (0 : Int), (⟨(0 : Int), (0 : Int), false, false, false, false, (⟨#[]⟩ : ByteArray), (0 : Int)⟩ : SThing)⟩ : SRec)).fThing.fNext⟩ : SThing)⟩ : SRec)))
    else none
  | .c6 k_1 i_5 a_0r1 =>
    bif ((decide (0 ≤ i_5)) && (decide (i_5 < (a_0r1.length : Int)))) then
    k (.c7 (w64 (k_1 + 1)) i_5 (a_0r1.set i_5.toNat (⟨(a_0r1.getD i_5.toNat (⟨(0 : Int), (⟨#[]⟩ : ByteArray), (0 : Int), (⟨(0 : Int), (0 : Int), false, false, false, false, (⟨#[]⟩ : ByteArray), (0 : Int)⟩ : SThing)⟩ : SRec)).fKind, (a_0r1.getD i_5.toNat (⟨(0 : Int), (⟨#[]⟩ : ByteArray), (0 : Int), (⟨(0 : Int), (0 : Int), false, false, false, false, (⟨#[]⟩ : ByteArray), (0 : Int)⟩ : SThing)⟩ : SRec)).fText, (a_0r1.getD i_5.toNat (⟨(0 : Int), (⟨#[]⟩ : ByteArray), (0 : Int), (⟨(0 : Int), (0 : Int), false, false, false, false, (⟨#[]⟩ : ByteArray), (0 : Int)⟩ : SThing)⟩ : SRec)).fNum, (⟨(a_0r1.getD i_5.toNat (⟨(0 : Int), (⟨#[]⟩ : ByteArray), (0 : Int), (⟨(0 : Int), (0 : Int), false, false, false, false, (⟨#[]⟩ : ByteArray), (0 : Int)⟩ : SThing)⟩ : SRec)).fThing.fId, (a_0r1.getD i_5.toNat (⟨(0 : Int), (⟨#[]⟩ : ByteArray), (0 : Int), (⟨(0 : Int), (0 : Int), false, false, false, false, (⟨#[]⟩ : ByteArray), (0 : Int)⟩ : SThing)⟩ : SRec)).fThing.fKind, (a_0r1.getD i_5.toNat (⟨(0 : Int), (⟨#[]⟩ : ByteArray), (0 : Int), (⟨(0 : Int), (0 : Int), false, false, false, false, (⟨#[]⟩ : ByteArray), (0 : Int)⟩ : SThing)⟩ : SRec)).fThing.fHidden, ((k_1.tmod 3) == 0), (a_0r1.getD i_5.toNat (⟨(0 : Int), (⟨#[]⟩ : ByteArray), (0 : Int), (⟨(0 : Int), (0 : Int), false, false, false, false, (⟨#[]⟩ : ByteArray), (0 : Int)⟩ : SThing)⟩ : SRec)).fThing.fSigns, (a_0r1.getD i_5.toNat (⟨(0 : Int), (⟨#[]⟩ : ByteArray), (0 : Int), (⟨(0 : Int), (0 : Int), false, false, false, false, (⟨#[]⟩ : ByteArray), (0 : Int)⟩ : SThing)⟩ : SRec)).fThing.fWraps, (a_0r1.getD i_5.toNat (⟨(0 : Int), (⟨#[]⟩ : ByteArray), (0 : Int), (⟨(0 : Int), (0 : Int), false, false, false, false, (⟨#[]⟩ : ByteArray), (0 : Int)⟩ : SThing)⟩ : SRec)).fThing.fValue, (a_0r1.getD i_5.toNat (⟨(0 : Int), (⟨#[]⟩ : ByteArray), (0 : Int), (⟨(0 : Int), (0 : Int), false, false, false, false, (⟨#[]⟩ : ByteArray), (0 : Int)⟩ : SThing)⟩ : SRec)).fThing.fNext⟩ : SThing)⟩ : SRec)))
    else none
  | .c7 k_1 i_5 a_0r1 =>
    bif ((decide (0 ≤ i_5)) && (decide (i_5 < (a_0r1.length : Int)))) then
    k (.c8 (w64 (k_1 + 1)) i_5 (a_0r1.set i_5.toNat (⟨(a_0r1.getD i_5.toNat (⟨(0 : Int), (⟨#[]⟩ : ByteArray), (0 : Int), (⟨(0 : Int), (0 : Int), false, false, false, false, (⟨#[]⟩ : ByteArray), (0 : Int)⟩ : SThing)⟩ : SRec)).fKind, (a_0r1.getD i_5.toNat (⟨(0 : Int), (⟨#[]⟩ : ByteArray), (0 : Int), (⟨(0 : Int), (0 : Int), false, false, false, false, (⟨#[]⟩ : ByteArray), (0 : Int)⟩ : SThing)⟩ : SRec)).fText, (a_0r1.getD i_5.toNat (⟨(0 : Int), (⟨#[]⟩ : ByteArray), (0 : Int), (⟨(0 : Int), (0 : Int), false, false, false, false, (⟨#[]⟩ : ByteArray), (0 : Int)⟩ : SThing)⟩ : SRec)).fNum, (⟨(a_0r1.getD i_5.toNat (⟨(0 : Int), (⟨#[]⟩ : ByteArray), (0 : Int), (⟨(0 : Int), (0 : Int), false, false, false, false, (⟨#[]⟩ : ByteArray), (0 : Int)⟩ : SThing)⟩ : SRec)).fThing.fId, (a_0r1.getD i_5.toNat (⟨(0 : Int), (⟨#[]⟩ : ByteArray), (0 : Int), (⟨(0 : Int), (0 : Int), false, false, false, false, (⟨#[]⟩ : ByteArray), (0 : Int)⟩ : SThing)⟩ : SRec)).fThing.fKind, (a_0r1.getD i_5.toNat (⟨(0 : Int), (⟨#[]⟩ : ByteArray), (0 : Int), (⟨(0 : Int), (0 : Int), false, false, false, false, (⟨#[]⟩ : ByteArray), (0 : Int)⟩ : SThing)⟩ : SRec)).fThing.fHidden, (a_0r1.getD i_5.toNat (⟨(0 : Int), (⟨#[]⟩ : ByteArray), (0 : Int), (⟨(0 : Int), (0 : Int), false, false, false, false, (⟨#[]⟩ : ByteArray), (0 : Int)⟩ : SThing)⟩ : SRec)).fThing.fFixed, ((k_1.tmod 3) == 0), (a_0r1.getD i_5.toNat (⟨(0 : Int), (⟨#[]⟩ : ByteArray), (0 : Int), (⟨(0 : Int), (0 : Int), false, false, false, false, (⟨#[]⟩ : ByteArray), (0 : Int)⟩ : SThing)⟩ : SRec)).fThing.fWraps, (a_0r1.getD i_5.toNat (⟨(0 : Int), (⟨#[]⟩ : ByteArray), (0 : Int), (⟨(0 : Int), (0 : Int), false, false, false, false, (⟨#[]⟩ : ByteArray), (0 : Int)⟩ : SThing)⟩ : SRec)).fThing.fValue, (a_0r1.getD i_5.toNat (⟨(0 : Int), (⟨#[]⟩ : ByteArray), (0 : Int), (⟨(0 : Int), (0 : Int), false, false, false, false, (⟨#[]⟩ : ByteArray), (0 : Int)⟩ : SThing)⟩ : SRec)).fThing.fNext⟩ : SThing)⟩ : SRec)))
    else none
  | .c8 k_1 i_5 a_0r1 =>
    bif ((decide (0 ≤ i_5)) && (decide (i_5 < (a_0r1.length : Int)))) then
    k (.c9 (w64 (k_1 + 1)) i_5 (a_0r1.set i_5.toNat (⟨(a_0r1.getD i_5.toNat (⟨(0 : Int), (⟨#[]⟩ : ByteArray), (0 : Int), (⟨(0 : Int), (0 : Int), false, false, false, false, (⟨#[]⟩ : ByteArray), (0 : Int)⟩ : SThing)⟩ : SRec)).fKind, (a_0r1.getD i_5.toNat (⟨(0 : Int), (⟨#[]⟩ : ByteArray), (0 : Int), (⟨(0 : Int), (0 : Int), false, false, false, false, (⟨#[]⟩ : ByteArray), (0 : Int)⟩ : SThing)⟩ : SRec)).fText, (a_0r1.getD i_5.toNat (⟨(0 : Int), (⟨#[]⟩ : ByteArray), (0 : Int), (⟨(0 : Int), (0 : Int), false, false, false, false, (⟨#[]⟩ : ByteArray), (0 : Int)⟩ : SThing)⟩ : SRec)).fNum, (⟨(a_0r1.getD i_5.toNat (⟨(0 : Int), (⟨#[]⟩ : ByteArray), (0 : Int), (⟨(0 : Int), (0 : Int), false, false, false, false, (⟨#[]⟩ : ByteArray), (0 : Int)⟩ : SThing)⟩ : SRec)).fThing.fId, (a_0r1.getD i_5.toNat (⟨(0 : Int), (⟨#[]⟩ : ByteArray), (0 : Int), (⟨(0 : Int), (0 : Int), false, false, false, false, (⟨#[]⟩ : ByteArray), (0 : Int)⟩ : SThing)⟩ : SRec)).fThing.fKind, (a_0r1.getD i_5.toNat (⟨(0 : Int), (⟨#[]⟩ : ByteArray), (0 : Int), (⟨(0 : Int), (0 : Int), false, false, false, false, (⟨#[]⟩ : ByteArray), (0 : Int)⟩ : SThing)⟩ : SRec)).fThing.fHidden, (a_0r1.getD i_5.toNat (⟨(0 : Int), (⟨#[]⟩ : ByteArray), (0 : Int), (⟨(0 : Int), (0 : Int), false, false, false, false, (⟨#[]⟩ : ByteArray), (0 : Int)⟩ : SThing)⟩ : SRec)).fThing.fFixed, (a_0r1.getD i_5.toNat (⟨(0 : Int), (⟨#[]⟩ : ByteArray), (0 : Int), (⟨(0 : Int), (0 : Int), false, false, false, false, (⟨#[]⟩ : ByteArray), (0 : Int)⟩ : SThing)⟩ : SRec)).fThing.fSigns, ((k_1.tmod 3) == 0), (a_0r1.getD i_5.toNat (⟨(0 : Int), (⟨#[]⟩ : ByteArray), (0 : Int), (⟨(0 : Int), (0 : Int), false, false, false, false, (⟨#[]⟩ : ByteArray), (0 : Int)⟩ : SThing)⟩ : SRec)).fThing.fValue, (a_0r1.getD i_5.toNat (⟨(0 : Int), (⟨#[]⟩ : ByteArray), (0 : Int), (⟨(0 : Int), (0 : Int), false, false, false, false, (⟨#[]⟩ : ByteArray), (0 : Int)⟩ : SThing)⟩ : SRec)).fThing.fNext⟩ : SThing)⟩ : SRec)))
    else none
  | .c9 k_1 i_5 a_0r1 =>
    (laws_markText k_1).bind fun r0 =>
    bif ((decide (0 ≤ i_5)) && (decide (i_5 < (a_0r1.length : Int)))) then
    k (.c10 (w64 (k_1 + 1)) i_5 (a_0r1.set i_5.toNat (⟨(a_0r1.getD i_5.toNat (⟨(0 : Int), (⟨#[]⟩ : ByteArray), (0 : Int), (⟨(0 : Int), (0 : Int), false, false, false, false, (⟨#[]⟩ : ByteArray), (0 : Int)⟩ : SThing)⟩ : SRec)).fKind, (a_0r1.getD i_5.toNat (⟨(0 : Int), (⟨#[]⟩ : ByteArray), (0 : Int), (⟨(0 : Int), (0 : Int), false, false, false, false, (⟨#[]⟩ : ByteArray), (0 : Int)⟩ : SThing)⟩ : SRec)).fText, (a_0r1.getD i_5.toNat (⟨(0 : Int), (⟨#[]⟩ : ByteArray), (0 : Int), (⟨(0 : Int), (0 : Int), false, false, false, false, (⟨#[]⟩ : ByteArray), (0 : Int)⟩ : SThing)⟩ : SRec)).fNum, (⟨(a_0r1.getD i_5.toNat (⟨(0 : Int), (⟨#[]⟩ : ByteArray), (0 : Int), (⟨(0 : Int), (0 : Int), false, false, false, false, (⟨#[]⟩ : ByteArray), (0 : Int)⟩ : SThing)⟩ : SRec)).fThing.fId, (a_0r1.getD i_5.toNat (⟨(0 : Int), (⟨#[]⟩ : ByteArray), (0 : Int), (⟨(0 : Int), (0 : Int), false, false, false, false, (⟨#[]⟩ : ByteArray), (0 : Int)⟩ : SThing)⟩ : SRec)).fThing.fKind, (a_0r1.getD i_5.toNat (⟨(0 : Int), (⟨#[]⟩ : ByteArray), (0 : Int), (⟨(0 : Int), (0 : Int), false, false, false, false, (⟨#[]⟩ : ByteArray), (0 : Int)⟩ : SThing)⟩ : SRec)).fThing.fHidden, (a_0r1.getD i_5.toNat (⟨(0 : Int), (⟨#[]⟩ : ByteArray), (0 : Int), (⟨(0 : Int), (0 : Int), false, false, false, false, (⟨#[]⟩ : ByteArray), (0 : Int)⟩ : SThing)⟩ : SRec)).fThing.fFixed, (a_0r1.getD i_5.toNat (⟨(0 : Int), (⟨#[]⟩ : ByteArray), (0 : Int), (⟨(0 : Int), (0 : Int), false, false, false, false, (⟨#[]⟩ : ByteArray), (0 : Int)⟩ : SThing)⟩ : SRec)).fThing.fSigns, (a_0r1.getD i_5.toNat (⟨(0 : Int), (⟨#[]⟩ : ByteArray), (0 : Int), (⟨(0 : Int), (0 : Int), false, false, false, false, (⟨#[]⟩ : ByteArray), (0 : Int)⟩ : SThing)⟩ : SRec)).fThing.fWraps, r0, (a_0r1.getD i_5.toNat (⟨(0 : Int), (⟨#[]⟩ : ByteArray), (0 : Int), (⟨(0 : Int), (0 : Int), false, false, false, false, (⟨#[]⟩ : ByteArray), (0 : Int)⟩ : SThing)⟩ : SRec)).fThing.fNext⟩ : SThing)⟩ : SRec)))
    else none
  | .c10 k_1 i_5 a_0r1 =>
    bif ((decide (0 ≤ i_5)) && (decide (i_5 < (a_0r1.length : Int)))) then
    k (.c0 (w64 (k_1 + 1)) (w64 (i_5 + 1)) (a_0r1.set i_5.toNat (⟨(a_0r1.getD i_5.toNat (⟨(0 : Int), (⟨#[]⟩ : ByteArray), (0 : Int), (⟨(0 : Int), (0 : Int), false, false, false, false, (⟨#[]⟩ : ByteArray), (0 : Int)⟩ : SThing)⟩ : SRec)).fKind, (a_0r1.getD i_5.toNat (⟨(0 : Int), (⟨#[]⟩ : ByteArray), (0 : Int), (⟨(0 : Int), (0 : Int), false, false, false, false, (⟨#[]⟩ : ByteArray), (0 : Int)⟩ : SThing)⟩ : SRec)).fText, (a_0r1.getD i_5.toNat (⟨(0 : Int), (⟨#[]⟩ : ByteArray), (0 : Int), (⟨(0 : Int), (0 : Int), false, false, false, false, (⟨#[]⟩ : ByteArray), (0 : Int)⟩ : SThing)⟩ : SRec)).fNum, (⟨(a_0r1.getD i_5.toNat (⟨(0 : Int), (⟨#[]⟩ : ByteArray), (0 : Int), (⟨(0 : Int), (0 : Int), false, false, false, false, (⟨#[]⟩ : ByteArray), (0 : Int)⟩ : SThing)⟩ : SRec)).fThing.fId, (a_0r1.getD i_5.toNat (⟨(0 : Int), (⟨#[]⟩ : ByteArray), (0 : Int), (⟨(0 : Int), (0 : Int), false, false, false, false, (⟨#[]⟩ : ByteArray), (0 : Int)⟩ : SThing)⟩ : SRec)).fThing.fKind, (a_0r1.getD i_5.toNat (⟨(0 : Int), (⟨#[]⟩ : ByteArray), (0 : Int), (⟨(0 : Int), (0 : Int), false, false, false, false, (⟨#[]⟩ : ByteArray), (0 : Int)⟩ : SThing)⟩ : SRec)).fThing.fHidden, (a_0r1.getD i_5.toNat (⟨(0 : Int), (⟨#[]⟩ : ByteArray), (0 : Int), (⟨(0 : Int), (0 : Int), false, false, false, false, (⟨#[]⟩ : ByteArray), (0 : Int)⟩ : SThing)⟩ : SRec)).fThing.fFixed, (a_0r1.getD i_5.toNat (⟨(0 : Int), (⟨#[]⟩ : ByteArray), (0 : Int), (⟨(0 : Int), (0 : Int), false, false, false, false, (⟨#[]⟩ : ByteArray), (0 : Int)⟩ : SThing)⟩ : SRec)).fThing.fSigns, (a_0r1.getD i_5.toNat (⟨(0 : Int), (⟨#[]⟩ : ByteArray), (0 : Int), (⟨(0 : Int), (0 : Int), false, false, false, false, (⟨#[]⟩ : ByteArray), (0 : Int)⟩ : SThing)⟩ : SRec)).fThing.fWraps, (a_0r1.getD i_5.toNat (⟨(0 : Int), (⟨#[]⟩ : ByteArray), (0 : Int), (⟨(0 : Int), (0 : Int), false, false, false, false, (⟨#[]⟩ : ByteArray), (0 : Int)⟩ : SThing)⟩ : SRec)).fThing.fValue, k_1⟩ : SThing)⟩ : SRec)))
    else none
noncomputable def L_laws_markRecS : Nat → St_laws_markRecS → Option (Int × (List SRec))
  | 0, _ => none
  | m + 1, s => B_laws_markRecS laws_markText (L_laws_markRecS m) s
noncomputable def laws_markRecS (a_0 : (List SRec)) (k_1 : Int) : Option (Int × (List SRec)) := E_laws_markRecS laws_markText (L_laws_markRecS gas) a_0 k_1
theorem e_laws_markRecS (laws_markText : Int → Option ByteArray) : EntryIs ctx PP 46 [1] [(67, H_laws_markText laws_markText)] cv112 cv113 at_laws_markRecS (fun k a => E_laws_markRecS laws_markText k a.1 a.2) := fun stop a => by kernel_rfl
theorem b_laws_markRecS (laws_markText : Int → Option ByteArray) : CutIs ctx PP 46 Tryd.f46 [1] [(67, H_laws_markText laws_markText)] cv113 at_laws_markRecS (B_laws_markRecS laws_markText) := fun stop s => by cases s <;> kernel_rfl
theorem i_laws_markRecS : ∀ s s', at_laws_markRecS s = at_laws_markRecS s' → s = s' := by
  intro s s' h
  cases s with
  | c0 v0 v1 v2 => cases s' with
    | c0 w0 w1 w2 => cases h; rfl
    | c1 w0 w1 w2 => exact (region_ne 2 6 h (by kernel_rfl) (by kernel_rfl) rfl).elim
    | c2 w0 w1 w2 => exact (region_ne 2 8 h (by kernel_rfl) (by kernel_rfl) rfl).elim
    | c3 w0 w1 w2 => exact (region_ne 2 10 h (by kernel_rfl) (by kernel_rfl) rfl).elim
    | c4 w0 w1 w2 => exact (region_ne 2 12 h (by kernel_rfl) (by kernel_rfl) rfl).elim
    | c5 w0 w1 w2 => exact (region_ne 2 14 h (by kernel_rfl) (by kernel_rfl) rfl).elim
    | c6 w0 w1 w2 => exact (region_ne 2 16 h (by kernel_rfl) (by kernel_rfl) rfl).elim
    | c7 w0 w1 w2 => exact (region_ne 2 18 h (by kernel_rfl) (by kernel_rfl) rfl).elim
    | c8 w0 w1 w2 => exact (region_ne 2 20 h (by kernel_rfl) (by kernel_rfl) rfl).elim
    | c9 w0 w1 w2 => exact (region_ne 2 22 h (by kernel_rfl) (by kernel_rfl) rfl).elim
    | c10 w0 w1 w2 => exact (region_ne 2 24 h (by kernel_rfl) (by kernel_rfl) rfl).elim
  | c1 v0 v1 v2 => cases s' with
    | c0 w0 w1 w2 => exact (region_ne 6 2 h (by kernel_rfl) (by kernel_rfl) rfl).elim
    | c1 w0 w1 w2 => cases h; rfl
    | c2 w0 w1 w2 => exact (region_ne 6 8 h (by kernel_rfl) (by kernel_rfl) rfl).elim
    | c3 w0 w1 w2 => exact (region_ne 6 10 h (by kernel_rfl) (by kernel_rfl) rfl).elim
    | c4 w0 w1 w2 => exact (region_ne 6 12 h (by kernel_rfl) (by kernel_rfl) rfl).elim
    | c5 w0 w1 w2 => exact (region_ne 6 14 h (by kernel_rfl) (by kernel_rfl) rfl).elim
    | c6 w0 w1 w2 => exact (region_ne 6 16 h (by kernel_rfl) (by kernel_rfl) rfl).elim
    | c7 w0 w1 w2 => exact (region_ne 6 18 h (by kernel_rfl) (by kernel_rfl) rfl).elim
    | c8 w0 w1 w2 => exact (region_ne 6 20 h (by kernel_rfl) (by kernel_rfl) rfl).elim
    | c9 w0 w1 w2 => exact (region_ne 6 22 h (by kernel_rfl) (by kernel_rfl) rfl).elim
    | c10 w0 w1 w2 => exact (region_ne 6 24 h (by kernel_rfl) (by kernel_rfl) rfl).elim
  | c2 v0 v1 v2 => cases s' with
    | c0 w0 w1 w2 => exact (region_ne 8 2 h (by kernel_rfl) (by kernel_rfl) rfl).elim
    | c1 w0 w1 w2 => exact (region_ne 8 6 h (by kernel_rfl) (by kernel_rfl) rfl).elim
    | c2 w0 w1 w2 => cases h; rfl
    | c3 w0 w1 w2 => exact (region_ne 8 10 h (by kernel_rfl) (by kernel_rfl) rfl).elim
    | c4 w0 w1 w2 => exact (region_ne 8 12 h (by kernel_rfl) (by kernel_rfl) rfl).elim
    | c5 w0 w1 w2 => exact (region_ne 8 14 h (by kernel_rfl) (by kernel_rfl) rfl).elim
    | c6 w0 w1 w2 => exact (region_ne 8 16 h (by kernel_rfl) (by kernel_rfl) rfl).elim
    | c7 w0 w1 w2 => exact (region_ne 8 18 h (by kernel_rfl) (by kernel_rfl) rfl).elim
    | c8 w0 w1 w2 => exact (region_ne 8 20 h (by kernel_rfl) (by kernel_rfl) rfl).elim
    | c9 w0 w1 w2 => exact (region_ne 8 22 h (by kernel_rfl) (by kernel_rfl) rfl).elim
    | c10 w0 w1 w2 => exact (region_ne 8 24 h (by kernel_rfl) (by kernel_rfl) rfl).elim
  | c3 v0 v1 v2 => cases s' with
    | c0 w0 w1 w2 => exact (region_ne 10 2 h (by kernel_rfl) (by kernel_rfl) rfl).elim
    | c1 w0 w1 w2 => exact (region_ne 10 6 h (by kernel_rfl) (by kernel_rfl) rfl).elim
    | c2 w0 w1 w2 => exact (region_ne 10 8 h (by kernel_rfl) (by kernel_rfl) rfl).elim
    | c3 w0 w1 w2 => cases h; rfl
    | c4 w0 w1 w2 => exact (region_ne 10 12 h (by kernel_rfl) (by kernel_rfl) rfl).elim
    | c5 w0 w1 w2 => exact (region_ne 10 14 h (by kernel_rfl) (by kernel_rfl) rfl).elim
    | c6 w0 w1 w2 => exact (region_ne 10 16 h (by kernel_rfl) (by kernel_rfl) rfl).elim
    | c7 w0 w1 w2 => exact (region_ne 10 18 h (by kernel_rfl) (by kernel_rfl) rfl).elim
    | c8 w0 w1 w2 => exact (region_ne 10 20 h (by kernel_rfl) (by kernel_rfl) rfl).elim
    | c9 w0 w1 w2 => exact (region_ne 10 22 h (by kernel_rfl) (by kernel_rfl) rfl).elim
    | c10 w0 w1 w2 => exact (region_ne 10 24 h (by kernel_rfl) (by kernel_rfl) rfl).elim
  | c4 v0 v1 v2 => cases s' with
    | c0 w0 w1 w2 => exact (region_ne 12 2 h (by kernel_rfl) (by kernel_rfl) rfl).elim
    | c1 w0 w1 w2 => exact (region_ne 12 6 h (by kernel_rfl) (by kernel_rfl) rfl).elim
    | c2 w0 w1 w2 => exact (region_ne 12 8 h (by kernel_rfl) (by kernel_rfl) rfl).elim
    | c3 w0 w1 w2 => exact (region_ne 12 10 h (by kernel_rfl) (by kernel_rfl) rfl).elim
    | c4 w0 w1 w2 => cases h; rfl
    | c5 w0 w1 w2 => exact (region_ne 12 14 h (by kernel_rfl) (by kernel_rfl) rfl).elim
    | c6 w0 w1 w2 => exact (region_ne 12 16 h (by kernel_rfl) (by kernel_rfl) rfl).elim
    | c7 w0 w1 w2 => exact (region_ne 12 18 h (by kernel_rfl) (by kernel_rfl) rfl).elim
    | c8 w0 w1 w2 => exact (region_ne 12 20 h (by kernel_rfl) (by kernel_rfl) rfl).elim
    | c9 w0 w1 w2 => exact (region_ne 12 22 h (by kernel_rfl) (by kernel_rfl) rfl).elim
    | c10 w0 w1 w2 => exact (region_ne 12 24 h (by kernel_rfl) (by kernel_rfl) rfl).elim
  | c5 v0 v1 v2 => cases s' with
    | c0 w0 w1 w2 => exact (region_ne 14 2 h (by kernel_rfl) (by kernel_rfl) rfl).elim
    | c1 w0 w1 w2 => exact (region_ne 14 6 h (by kernel_rfl) (by kernel_rfl) rfl).elim
    | c2 w0 w1 w2 => exact (region_ne 14 8 h (by kernel_rfl) (by kernel_rfl) rfl).elim
    | c3 w0 w1 w2 => exact (region_ne 14 10 h (by kernel_rfl) (by kernel_rfl) rfl).elim
    | c4 w0 w1 w2 => exact (region_ne 14 12 h (by kernel_rfl) (by kernel_rfl) rfl).elim
    | c5 w0 w1 w2 => cases h; rfl
    | c6 w0 w1 w2 => exact (region_ne 14 16 h (by kernel_rfl) (by kernel_rfl) rfl).elim
    | c7 w0 w1 w2 => exact (region_ne 14 18 h (by kernel_rfl) (by kernel_rfl) rfl).elim
    | c8 w0 w1 w2 => exact (region_ne 14 20 h (by kernel_rfl) (by kernel_rfl) rfl).elim
    | c9 w0 w1 w2 => exact (region_ne 14 22 h (by kernel_rfl) (by kernel_rfl) rfl).elim
    | c10 w0 w1 w2 => exact (region_ne 14 24 h (by kernel_rfl) (by kernel_rfl) rfl).elim
  | c6 v0 v1 v2 => cases s' with
    | c0 w0 w1 w2 => exact (region_ne 16 2 h (by kernel_rfl) (by kernel_rfl) rfl).elim
    | c1 w0 w1 w2 => exact (region_ne 16 6 h (by kernel_rfl) (by kernel_rfl) rfl).elim
    | c2 w0 w1 w2 => exact (region_ne 16 8 h (by kernel_rfl) (by kernel_rfl) rfl).elim
    | c3 w0 w1 w2 => exact (region_ne 16 10 h (by kernel_rfl) (by kernel_rfl) rfl).elim
    | c4 w0 w1 w2 => exact (region_ne 16 12 h (by kernel_rfl) (by kernel_rfl) rfl).elim
    | c5 w0 w1 w2 => exact (region_ne 16 14 h (by kernel_rfl) (by kernel_rfl) rfl).elim
    | c6 w0 w1 w2 => cases h; rfl
    | c7 w0 w1 w2 => exact (region_ne 16 18 h (by kernel_rfl) (by kernel_rfl) rfl).elim
    | c8 w0 w1 w2 => exact (region_ne 16 20 h (by kernel_rfl) (by kernel_rfl) rfl).elim
    | c9 w0 w1 w2 => exact (region_ne 16 22 h (by kernel_rfl) (by kernel_rfl) rfl).elim
    | c10 w0 w1 w2 => exact (region_ne 16 24 h (by kernel_rfl) (by kernel_rfl) rfl).elim
  | c7 v0 v1 v2 => cases s' with
    | c0 w0 w1 w2 => exact (region_ne 18 2 h (by kernel_rfl) (by kernel_rfl) rfl).elim
    | c1 w0 w1 w2 => exact (region_ne 18 6 h (by kernel_rfl) (by kernel_rfl) rfl).elim
    | c2 w0 w1 w2 => exact (region_ne 18 8 h (by kernel_rfl) (by kernel_rfl) rfl).elim
    | c3 w0 w1 w2 => exact (region_ne 18 10 h (by kernel_rfl) (by kernel_rfl) rfl).elim
    | c4 w0 w1 w2 => exact (region_ne 18 12 h (by kernel_rfl) (by kernel_rfl) rfl).elim
    | c5 w0 w1 w2 => exact (region_ne 18 14 h (by kernel_rfl) (by kernel_rfl) rfl).elim
    | c6 w0 w1 w2 => exact (region_ne 18 16 h (by kernel_rfl) (by kernel_rfl) rfl).elim
    | c7 w0 w1 w2 => cases h; rfl
    | c8 w0 w1 w2 => exact (region_ne 18 20 h (by kernel_rfl) (by kernel_rfl) rfl).elim
    | c9 w0 w1 w2 => exact (region_ne 18 22 h (by kernel_rfl) (by kernel_rfl) rfl).elim
    | c10 w0 w1 w2 => exact (region_ne 18 24 h (by kernel_rfl) (by kernel_rfl) rfl).elim
  | c8 v0 v1 v2 => cases s' with
    | c0 w0 w1 w2 => exact (region_ne 20 2 h (by kernel_rfl) (by kernel_rfl) rfl).elim
    | c1 w0 w1 w2 => exact (region_ne 20 6 h (by kernel_rfl) (by kernel_rfl) rfl).elim
    | c2 w0 w1 w2 => exact (region_ne 20 8 h (by kernel_rfl) (by kernel_rfl) rfl).elim
    | c3 w0 w1 w2 => exact (region_ne 20 10 h (by kernel_rfl) (by kernel_rfl) rfl).elim
    | c4 w0 w1 w2 => exact (region_ne 20 12 h (by kernel_rfl) (by kernel_rfl) rfl).elim
    | c5 w0 w1 w2 => exact (region_ne 20 14 h (by kernel_rfl) (by kernel_rfl) rfl).elim
    | c6 w0 w1 w2 => exact (region_ne 20 16 h (by kernel_rfl) (by kernel_rfl) rfl).elim
    | c7 w0 w1 w2 => exact (region_ne 20 18 h (by kernel_rfl) (by kernel_rfl) rfl).elim
    | c8 w0 w1 w2 => cases h; rfl
    | c9 w0 w1 w2 => exact (region_ne 20 22 h (by kernel_rfl) (by kernel_rfl) rfl).elim
    | c10 w0 w1 w2 => exact (region_ne 20 24 h (by kernel_rfl) (by kernel_rfl) rfl).elim
  | c9 v0 v1 v2 => cases s' with
    | c0 w0 w1 w2 => exact (region_ne 22 2 h (by kernel_rfl) (by kernel_rfl) rfl).elim
    | c1 w0 w1 w2 => exact (region_ne 22 6 h (by kernel_rfl) (by kernel_rfl) rfl).elim
    | c2 w0 w1 w2 => exact (region_ne 22 8 h (by kernel_rfl) (by kernel_rfl) rfl).elim
    | c3 w0 w1 w2 => exact (region_ne 22 10 h (by kernel_rfl) (by kernel_rfl) rfl).elim
    | c4 w0 w1 w2 => exact (region_ne 22 12 h (by kernel_rfl) (by kernel_rfl) rfl).elim
    | c5 w0 w1 w2 => exact (region_ne 22 14 h (by kernel_rfl) (by kernel_rfl) rfl).elim
    | c6 w0 w1 w2 => exact (region_ne 22 16 h (by kernel_rfl) (by kernel_rfl) rfl).elim
    | c7 w0 w1 w2 => exact (region_ne 22 18 h (by kernel_rfl) (by kernel_rfl) rfl).elim
    | c8 w0 w1 w2 => exact (region_ne 22 20 h (by kernel_rfl) (by kernel_rfl) rfl).elim
    | c9 w0 w1 w2 => cases h; rfl
    | c10 w0 w1 w2 => exact (region_ne 22 24 h (by kernel_rfl) (by kernel_rfl) rfl).elim
  | c10 v0 v1 v2 => cases s' with
    | c0 w0 w1 w2 => exact (region_ne 24 2 h (by kernel_rfl) (by kernel_rfl) rfl).elim
    | c1 w0 w1 w2 => exact (region_ne 24 6 h (by kernel_rfl) (by kernel_rfl) rfl).elim
    | c2 w0 w1 w2 => exact (region_ne 24 8 h (by kernel_rfl) (by kernel_rfl) rfl).elim
    | c3 w0 w1 w2 => exact (region_ne 24 10 h (by kernel_rfl) (by kernel_rfl) rfl).elim
    | c4 w0 w1 w2 => exact (region_ne 24 12 h (by kernel_rfl) (by kernel_rfl) rfl).elim
    | c5 w0 w1 w2 => exact (region_ne 24 14 h (by kernel_rfl) (by kernel_rfl) rfl).elim
    | c6 w0 w1 w2 => exact (region_ne 24 16 h (by kernel_rfl) (by kernel_rfl) rfl).elim
    | c7 w0 w1 w2 => exact (region_ne 24 18 h (by kernel_rfl) (by kernel_rfl) rfl).elim
    | c8 w0 w1 w2 => exact (region_ne 24 20 h (by kernel_rfl) (by kernel_rfl) rfl).elim
    | c9 w0 w1 w2 => exact (region_ne 24 22 h (by kernel_rfl) (by kernel_rfl) rfl).elim
    | c10 w0 w1 w2 => cases h; rfl
theorem ok_laws_markRecS : Tells ctx PP 46 cv112 cv113 (fun a => laws_markRecS a.1 a.2) := fn_ok (hl_cons h_laws_markText hl_nil) Tryd.func46 i_laws_markRecS (fun _ => rfl) (fun _ _ => rfl) (b_laws_markRecS laws_markText) (e_laws_markRecS laws_markText) gas
noncomputable def H_laws_markRecS {γ : Type} (F : (List SRec) → Int → Option (Int × (List SRec))) : Hd ctx γ := hdl cv112.dec (fun a => F a.1 a.2) cv113.enc
theorem h_laws_markRecS {γ : Type} : HdOk (γ := γ) PP 46 (H_laws_markRecS laws_markRecS) := hd_ok ok_laws_markRecS
end Go.Proofs.YtldjkjjfoofccaaDoor.G
