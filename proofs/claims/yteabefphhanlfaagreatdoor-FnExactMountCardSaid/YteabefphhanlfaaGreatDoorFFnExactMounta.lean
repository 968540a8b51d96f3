/- Functions of the program, told by plain functions: part 1 of 2. -/
import Derived.Test.YteabefphhanlfaaGreatDoorCtx
namespace Go.Proofs.YteabefphhanlfaaGreatDoor.G
open Go Go.Ev
noncomputable def E_laws_szFile  (a_0 : SFile) (left_1 : Int) : Option Int :=
  bif (decide ((w64 (left_1 - (a_0.fName.size : Int))) < 0)) then
    some (-(1 : Int))
  else
    bif (decide ((w64 ((w64 (left_1 - (a_0.fName.size : Int))) - (a_0.fText.size : Int))) < 0)) then
      some (-(1 : Int))
    else
      some (w64 ((w64 (left_1 - (a_0.fName.size : Int))) - (a_0.fText.size : Int)))
noncomputable def laws_szFile (a_0 : SFile) (left_1 : Int) : Option Int := E_laws_szFile  a_0 left_1
theorem e_laws_szFile  : EntryIs0 ctx PP 100 [] [] cv0 cv1 (fun a => E_laws_szFile  a.1 a.2) := fun a => by kernel_rfl
theorem ok_laws_szFile : Tells ctx PP 100 cv0 cv1 (fun a => laws_szFile a.1 a.2) := fn_ok0 hl_nil Tryz.func100 (e_laws_szFile )
noncomputable def H_laws_szFile {γ : Type} (F : SFile → Int → Option Int) : Hd ctx γ := hdl cv0.dec (fun a => F a.1 a.2) cv1.enc
theorem h_laws_szFile {γ : Type} : HdOk (γ := γ) PP 100 (H_laws_szFile laws_szFile) := hd_ok ok_laws_szFile
noncomputable def todo_laws_szFileS_0 : List Go.Item := [.code (cAt (bodyOf Tryz.f36) [1, 1, 1, 0, 1, 0, 0, 0, 0]), .code (cAt (bodyOf Tryz.f36) [1, 1, 1, 0, 1, 0, 0, 0, 1]), .code (cAt (bodyOf Tryz.f36) [1, 1, 1, 0, 1, 0, 0, 1]), .inLoop (cAt (bodyOf Tryz.f36) [1, 1, 1, 0, 1, 0, 0]), .inBlock 0, .code (cAt (bodyOf Tryz.f36) [1, 1, 1, 1])]
inductive St_laws_szFileS where
  | c0 (a_0 : (List SFile)) (left_1 : Int) (i_5 : Int)
noncomputable def at_laws_szFileS : St_laws_szFileS → LI
  | .c0 a_0 left_1 i_5 => (todo_laws_szFileS_0, [(0, [.one (.rsl 131 a_0)]), (1, [.one (.int .i64 left_1)]), (5, [.one (.int .i64 i_5)])], [])
noncomputable def E_laws_szFileS (laws_szFile : SFile → Int → Option Int) (k : St_laws_szFileS → Option Int) (a_0 : (List SFile)) (left_1 : Int) : Option Int :=
  bif (decide ((w64 (left_1 - (a_0.length : Int))) < 0)) then
    some (-(1 : Int))
  else
    k (.c0 a_0 (w64 (left_1 - (a_0.length : Int))) (0 : Int))
noncomputable def B_laws_szFileS (laws_szFile : SFile → Int → Option Int) (k : St_laws_szFileS → Option Int) : St_laws_szFileS → Option Int
  | .c0 a_0 left_1 i_5 =>
    bif (decide (i_5 < (a_0.length : Int))) then
      bif ((decide (0 ≤ i_5)) && (decide (i_5 < (a_0.length : Int)))) then
      (laws_szFile (a_0.getD i_5.toNat (⟨(⟨#[]⟩ : ByteArray), (⟨#[]⟩ : ByteArray), (0 : Int)⟩ : SFile)) left_1).bind fun r0 =>
      bif (decide (r0 < 0)) then
        some (-(1 : Int))
      else
        k (.c0 a_0 r0 (w64 (i_5 + 1)))
      else none
    else
      some left_1
noncomputable def L_laws_szFileS : Nat → St_laws_szFileS → Option Int
  | 0, _ => none
  | m + 1, s => B_laws_szFileS laws_szFile (L_laws_szFileS m) s
noncomputable def laws_szFileS (a_0 : (List SFile)) (left_1 : Int) : Option Int := E_laws_szFileS laws_szFile (L_laws_szFileS gas) a_0 left_1
theorem e_laws_szFileS (laws_szFile : SFile → Int → Option Int) : EntryIs ctx PP 36 [] [(100, H_laws_szFile laws_szFile)] cv2 cv1 at_laws_szFileS (fun k a => E_laws_szFileS laws_szFile k a.1 a.2) := fun stop a => by kernel_rfl
theorem b_laws_szFileS (laws_szFile : SFile → Int → Option Int) : CutIs ctx PP 36 Tryz.f36 [] [(100, H_laws_szFile laws_szFile)] cv1 at_laws_szFileS (B_laws_szFileS laws_szFile) := fun stop s => by cases s <;> kernel_rfl
theorem i_laws_szFileS : ∀ s s', at_laws_szFileS s = at_laws_szFileS s' → s = s' := by
  intro s s' h
  cases s with
  | c0 v0 v1 v2 => cases s' with
    | c0 w0 w1 w2 => cases h; rfl
theorem ok_laws_szFileS : Tells ctx PP 36 cv2 cv1 (fun a => laws_szFileS a.1 a.2) := fn_ok (hl_cons h_laws_szFile hl_nil) Tryz.func36 i_laws_szFileS (fun _ => rfl) (fun _ _ => rfl) (b_laws_szFileS laws_szFile) (e_laws_szFileS laws_szFile) gas
noncomputable def H_laws_szFileS {γ : Type} (F : (List SFile) → Int → Option Int) : Hd ctx γ := hdl cv2.dec (fun a => F a.1 a.2) cv1.enc
theorem h_laws_szFileS {γ : Type} : HdOk (γ := γ) PP 36 (H_laws_szFileS laws_szFileS) := hd_ok ok_laws_szFileS
noncomputable def E_laws_szDisk (laws_szFileS : (List SFile) → Int → Option Int) (a_0 : SDisk) (left_1 : Int) : Option Int :=
  (laws_szFileS a_0.fFiles left_1).bind fun r0 =>
  bif (decide (r0 < 0)) then
    some (-(1 : Int))
  else
    some r0
noncomputable def laws_szDisk (a_0 : SDisk) (left_1 : Int) : Option Int := E_laws_szDisk laws_szFileS a_0 left_1
theorem e_laws_szDisk (laws_szFileS : (List SFile) → Int → Option Int) : EntryIs0 ctx PP 8 [] [(36, H_laws_szFileS laws_szFileS)] cv3 cv1 (fun a => E_laws_szDisk laws_szFileS a.1 a.2) := fun a => by kernel_rfl
theorem ok_laws_szDisk : Tells ctx PP 8 cv3 cv1 (fun a => laws_szDisk a.1 a.2) := fn_ok0 (hl_cons h_laws_szFileS hl_nil) Tryz.func8 (e_laws_szDisk laws_szFileS)
noncomputable def H_laws_szDisk {γ : Type} (F : SDisk → Int → Option Int) : Hd ctx γ := hdl cv3.dec (fun a => F a.1 a.2) cv1.enc
theorem h_laws_szDisk {γ : Type} : HdOk (γ := γ) PP 8 (H_laws_szDisk laws_szDisk) := hd_ok ok_laws_szDisk
noncomputable def E_laws_toFile  (a_0 : SFile) : Option SFile :=
  some a_0
noncomputable def laws_toFile (a_0 : SFile) : Option SFile := E_laws_toFile  a_0
theorem e_laws_toFile  : EntryIs0 ctx PP 110 [] [] cv4 cv4 (fun a => E_laws_toFile  a) := fun a => by kernel_rfl
theorem ok_laws_toFile : Tells ctx PP 110 cv4 cv4 (fun a => laws_toFile a) := fn_ok0 hl_nil Tryz.func110 (e_laws_toFile )
noncomputable def H_laws_toFile {γ : Type} (F : SFile → Option SFile) : Hd ctx γ := hdl cv4.dec (fun a => F a) cv4.enc
theorem h_laws_toFile {γ : Type} : HdOk (γ := γ) PP 110 (H_laws_toFile laws_toFile) := hd_ok ok_laws_toFile
noncomputable def todo_laws_toFileS_0 : List Go.Item := [.code (cAt (bodyOf Tryz.f43) [1, 1, 0, 1, 0, 0, 0, 0]), .code (cAt (bodyOf Tryz.f43) [1, 1, 0, 1, 0, 0, 0, 1]), .code (cAt (bodyOf Tryz.f43) [1, 1, 0, 1, 0, 0, 1]), .inLoop (cAt (bodyOf Tryz.f43) [1, 1, 0, 1, 0, 0]), .inBlock 0, .code (cAt (bodyOf Tryz.f43) [1, 1, 1])]
inductive St_laws_toFileS where
  | c0 (a_0 : (List SFile)) (i_4 : Int) (out_3 : (List SFile))
noncomputable def at_laws_toFileS : St_laws_toFileS → LI
  | .c0 a_0 i_4 out_3 => (todo_laws_toFileS_0, [(0, [.one (.rsl 131 a_0)]), (3, [.one (.own 240)]), (4, [.one (.int .i64 i_4)])], [(240, .sl 132 out_3)])
noncomputable def E_laws_toFileS (laws_toFile : SFile → Option SFile) (k : St_laws_toFileS → Option (List SFile)) (a_0 : (List SFile)) : Option (List SFile) :=
  bif ((((decide (0 ≤ (a_0.length : Int))) && (decide ((a_0.length : Int) ≤ (a_0.length : Int)))) && (decide ((a_0.length : Int) ≤ 9223372036854775807))) && (decide (((a_0.length : Int).toNat * 40) ≤ 140737488355328))) then
  k (.c0 a_0 (0 : Int) (List.replicate (a_0.length : Int).toNat (⟨(⟨#[]⟩ : ByteArray), (⟨#[]⟩ : ByteArray), (0 : Int)⟩ : SFile)))
  else none
noncomputable def B_laws_toFileS (laws_toFile : SFile → Option SFile) (k : St_laws_toFileS → Option (List SFile)) : St_laws_toFileS → Option (List SFile)
  | .c0 a_0 i_4 out_3 =>
    bif (decide (i_4 < (a_0.length : Int))) then
      bif ((decide (0 ≤ i_4)) && (decide (i_4 < (a_0.length : Int)))) then
      (laws_toFile (a_0.getD i_4.toNat (⟨(⟨#[]⟩ : ByteArray), (⟨#[]⟩ : ByteArray), (0 : Int)⟩ : SFile))).bind fun r0 =>
      bif ((decide (0 ≤ i_4)) && (decide (i_4 < (out_3.length : Int)))) then
      k (.c0 a_0 (w64 (i_4 + 1)) (out_3.set i_4.toNat r0))
      else none
      else none
    else
      some out_3
noncomputable def L_laws_toFileS : Nat → St_laws_toFileS → Option (List SFile)
  | 0, _ => none
  | m + 1, s => B_laws_toFileS laws_toFile (L_laws_toFileS m) s
noncomputable def laws_toFileS (a_0 : (List SFile)) : Option (List SFile) := E_laws_toFileS laws_toFile (L_laws_toFileS gas) a_0
theorem e_laws_toFileS (laws_toFile : SFile → Option SFile) : EntryIs ctx PP 43 [] [(110, H_laws_toFile laws_toFile)] cv5 cv6 at_laws_toFileS (fun k a => E_laws_toFileS laws_toFile k a) := fun stop a => by kernel_rfl
theorem b_laws_toFileS (laws_toFile : SFile → Option SFile) : CutIs ctx PP 43 Tryz.f43 [] [(110, H_laws_toFile laws_toFile)] cv6 at_laws_toFileS (B_laws_toFileS laws_toFile) := fun stop s => by cases s <;> kernel_rfl
theorem i_laws_toFileS : ∀ s s', at_laws_toFileS s = at_laws_toFileS s' → s = s' := by
  intro s s' h
  cases s with
  | c0 v0 v1 v2 => cases s' with
    | c0 w0 w1 w2 => cases h; rfl
theorem ok_laws_toFileS : Tells ctx PP 43 cv5 cv6 (fun a => laws_toFileS a) := fn_ok (hl_cons h_laws_toFile hl_nil) Tryz.func43 i_laws_toFileS (fun _ => rfl) (fun _ _ => rfl) (b_laws_toFileS laws_toFile) (e_laws_toFileS laws_toFile) gas
noncomputable def H_laws_toFileS {γ : Type} (F : (List SFile) → Option (List SFile)) : Hd ctx γ := hdl cv5.dec (fun a => F a) cv6.enc
theorem h_laws_toFileS {γ : Type} : HdOk (γ := γ) PP 43 (H_laws_toFileS laws_toFileS) := hd_ok ok_laws_toFileS
noncomputable def E_laws_toDisk (laws_toFileS : (List SFile) → Option (List SFile)) (a_0 : SDisk) : Option SDisk :=
  (laws_toFileS a_0.fFiles).bind fun r0 =>
  some (⟨r0⟩ : SDisk)
noncomputable def laws_toDisk (a_0 : SDisk) : Option SDisk := E_laws_toDisk laws_toFileS a_0
theorem e_laws_toDisk (laws_toFileS : (List SFile) → Option (List SFile)) : EntryIs0 ctx PP 10 [] [(43, H_laws_toFileS laws_toFileS)] cv7 cv8 (fun a => E_laws_toDisk laws_toFileS a) := fun a => by kernel_rfl
theorem ok_laws_toDisk : Tells ctx PP 10 cv7 cv8 (fun a => laws_toDisk a) := fn_ok0 (hl_cons h_laws_toFileS hl_nil) Tryz.func10 (e_laws_toDisk laws_toFileS)
noncomputable def H_laws_toDisk {γ : Type} (F : SDisk → Option SDisk) : Hd ctx γ := hdl cv7.dec (fun a => F a) cv8.enc
theorem h_laws_toDisk {γ : Type} : HdOk (γ := γ) PP 10 (H_laws_toDisk laws_toDisk) := hd_ok ok_laws_toDisk
noncomputable def E_spec_l01In  (x_0 : Int) (least_1 : Int) (most_2 : Int) : Option Bool :=
  bif (decide (x_0 ≥ least_1)) then
    some (decide (x_0 ≤ most_2))
  else
    some false
noncomputable def spec_l01In (x_0 : Int) (least_1 : Int) (most_2 : Int) : Option Bool := E_spec_l01In  x_0 least_1 most_2
theorem e_spec_l01In  : EntryIs0 ctx PP 60 [] [] cv9 cv10 (fun a => E_spec_l01In  a.1 a.2.1 a.2.2) := fun a => by kernel_rfl
theorem ok_spec_l01In : Tells ctx PP 60 cv9 cv10 (fun a => spec_l01In a.1 a.2.1 a.2.2) := fn_ok0 hl_nil Tryz.func60 (e_spec_l01In )
noncomputable def H_spec_l01In {γ : Type} (F : Int → Int → Int → Option Bool) : Hd ctx γ := hdl cv9.dec (fun a => F a.1 a.2.1 a.2.2) cv10.enc
theorem h_spec_l01In {γ : Type} : HdOk (γ := γ) PP 60 (H_spec_l01In spec_l01In) := hd_ok ok_spec_l01In
noncomputable def E_spec_l03Name (spec_l01In : Int → Int → Int → Option Bool) (s_0 : ByteArray) : Option Bool :=
  (spec_l01In (s_0.size : Int) (1 : Int) (8 : Int)).bind fun r0 =>
  some r0
noncomputable def spec_l03Name (s_0 : ByteArray) : Option Bool := E_spec_l03Name spec_l01In s_0
theorem e_spec_l03Name (spec_l01In : Int → Int → Int → Option Bool) : EntryIs0 ctx PP 101 [] [(60, H_spec_l01In spec_l01In)] cv11 cv10 (fun a => E_spec_l03Name spec_l01In a) := fun a => by kernel_rfl
theorem ok_spec_l03Name : Tells ctx PP 101 cv11 cv10 (fun a => spec_l03Name a) := fn_ok0 (hl_cons h_spec_l01In hl_nil) Tryz.func101 (e_spec_l03Name spec_l01In)
noncomputable def H_spec_l03Name {γ : Type} (F : ByteArray → Option Bool) : Hd ctx γ := hdl cv11.dec (fun a => F a) cv10.enc
theorem h_spec_l03Name {γ : Type} : HdOk (γ := γ) PP 101 (H_spec_l03Name spec_l03Name) := hd_ok ok_spec_l03Name
noncomputable def todo_spec_DiskOk_0 : List Go.Item := [.code (cAt (bodyOf Tryz.f37) [1, 1, 0, 1, 0, 0, 0, 0]), .code (cAt (bodyOf Tryz.f37) [1, 1, 0, 1, 0, 0, 0, 1]), .code (cAt (bodyOf Tryz.f37) [1, 1, 0, 1, 0, 0, 1]), .inLoop (cAt (bodyOf Tryz.f37) [1, 1, 0, 1, 0, 0]), .inBlock 0, .code (cAt (bodyOf Tryz.f37) [1, 1, 1])]
inductive St_spec_DiskOk where
  | c0 (i_3 : Int) (d_1 : SDisk)
noncomputable def at_spec_DiskOk : St_spec_DiskOk → LI
  | .c0 i_3 d_1 => (todo_spec_DiskOk_0, [(1, [.one (.ptr 64 0)]), (3, [.one (.int .i64 i_3)])], [(64, .var [.rsl 132 d_1.fFiles])])
noncomputable def E_spec_DiskOk (spec_l03Name : ByteArray → Option Bool) (spec_l01In : Int → Int → Int → Option Bool) (k : St_spec_DiskOk → Option Bool) (d_0 : SDisk) : Option Bool :=
  bif (decide ((d_0.fFiles.length : Int) > 30)) then
    some false
  else
    k (.c0 (0 : Int) d_0)
noncomputable def B_spec_DiskOk (spec_l03Name : ByteArray → Option Bool) (spec_l01In : Int → Int → Int → Option Bool) (k : St_spec_DiskOk → Option Bool) : St_spec_DiskOk → Option Bool
  | .c0 i_3 d_1 =>
    bif (decide (i_3 < (d_1.fFiles.length : Int))) then
      bif ((decide (0 ≤ i_3)) && (decide (i_3 < (d_1.fFiles.length : Int)))) then
      (spec_l03Name (d_1.fFiles.getD i_3.toNat (⟨(⟨#[]⟩ : ByteArray), (⟨#[]⟩ : ByteArray), (0 : Int)⟩ : SFile)).fName).bind fun r0 =>
      bif (!r0) then
        some false
      else
        bif (decide (((d_1.fFiles.getD i_3.toNat (⟨(⟨#[]⟩ : ByteArray), (⟨#[]⟩ : ByteArray), (0 : Int)⟩ : SFile)).fText.size : Int) > 20000)) then
          some false
        else
          (spec_l01In (d_1.fFiles.getD i_3.toNat (⟨(⟨#[]⟩ : ByteArray), (⟨#[]⟩ : ByteArray), (0 : Int)⟩ : SFile)).fKept (0 : Int) ((d_1.fFiles.getD i_3.toNat (⟨(⟨#[]⟩ : ByteArray), (⟨#[]⟩ : ByteArray), (0 : Int)⟩ : SFile)).fText.size : Int)).bind fun r1 =>
          bif (!r1) then
            some false
          else
            bif (decide (i_3 > 0)) then
              bif ((decide (0 ≤ (w64 (i_3 - 1)))) && (decide ((w64 (i_3 - 1)) < (d_1.fFiles.length : Int)))) then
              bif (!(Op.bytesLess (ByteArray.toList (d_1.fFiles.getD (w64 (i_3 - 1)).toNat (⟨(⟨#[]⟩ : ByteArray), (⟨#[]⟩ : ByteArray), (0 : Int)⟩ : SFile)).fName) (ByteArray.toList (d_1.fFiles.getD i_3.toNat (⟨(⟨#[]⟩ : ByteArray), (⟨#[]⟩ : ByteArray), (0 : Int)⟩ : SFile)).fName))) then
                some false
              else
                k (.c0 (w64 (i_3 + 1)) d_1)
              else none
            else
              k (.c0 (w64 (i_3 + 1)) d_1)
      else none
    else
      some true
noncomputable def L_spec_DiskOk : Nat → St_spec_DiskOk → Option Bool
  | 0, _ => none
  | m + 1, s => B_spec_DiskOk spec_l03Name spec_l01In (L_spec_DiskOk m) s
noncomputable def spec_DiskOk (d_0 : SDisk) : Option Bool := E_spec_DiskOk spec_l03Name spec_l01In (L_spec_DiskOk gas) d_0
theorem e_spec_DiskOk (spec_l03Name : ByteArray → Option Bool) (spec_l01In : Int → Int → Int → Option Bool) : EntryIs ctx PP 37 [] [(101, H_spec_l03Name spec_l03Name), (60, H_spec_l01In spec_l01In)] cv12 cv10 at_spec_DiskOk (fun k a => E_spec_DiskOk spec_l03Name spec_l01In k a) := fun stop a => by kernel_rfl
theorem b_spec_DiskOk (spec_l03Name : ByteArray → Option Bool) (spec_l01In : Int → Int → Int → Option Bool) : CutIs ctx PP 37 Tryz.f37 [] [(101, H_spec_l03Name spec_l03Name), (60, H_spec_l01In spec_l01In)] cv10 at_spec_DiskOk (B_spec_DiskOk spec_l03Name spec_l01In) := fun stop s => by cases s <;> kernel_rfl
theorem i_spec_DiskOk : ∀ s s', at_spec_DiskOk s = at_spec_DiskOk s' → s = s' := by
  intro s s' h
  cases s with
  | c0 v0 v1 => cases s' with
    | c0 w0 w1 => obtain ⟨_⟩ := v1; obtain ⟨_⟩ := w1; cases h; rfl
theorem ok_spec_DiskOk : Tells ctx PP 37 cv12 cv10 (fun a => spec_DiskOk a) := fn_ok (hl_cons h_spec_l03Name (hl_cons h_spec_l01In hl_nil)) Tryz.func37 i_spec_DiskOk (fun _ => rfl) (fun _ _ => rfl) (b_spec_DiskOk spec_l03Name spec_l01In) (e_spec_DiskOk spec_l03Name spec_l01In) gas
noncomputable def H_spec_DiskOk {γ : Type} (F : SDisk → Option Bool) : Hd ctx γ := hdl cv12.dec (fun a => F a) cv10.enc
theorem h_spec_DiskOk {γ : Type} : HdOk (γ := γ) PP 37 (H_spec_DiskOk spec_DiskOk) := hd_ok ok_spec_DiskOk
noncomputable def todo_spec_l03At_0 : List Go.Item := [.code (cAt (bodyOf Tryz.f42) [1, 0, 1, 0, 0, 0, 0]), .code (cAt (bodyOf Tryz.f42) [1, 0, 1, 0, 0, 0, 1]), .code (cAt (bodyOf Tryz.f42) [1, 0, 1, 0, 0, 1]), .inLoop (cAt (bodyOf Tryz.f42) [1, 0, 1, 0, 0]), .inBlock 0, .code (cAt (bodyOf Tryz.f42) [1, 1])]
inductive St_spec_l03At where
  | c0 (name_1 : ByteArray) (i_5 : Int) (d_2 : SDisk)
noncomputable def at_spec_l03At : St_spec_l03At → LI
  | .c0 name_1 i_5 d_2 => (todo_spec_l03At_0, [(1, [.one (.str name_1)]), (2, [.one (.ptr 128 0)]), (5, [.one (.int .i64 i_5)])], [(128, .var [.rsl 132 d_2.fFiles])])
noncomputable def E_spec_l03At  (k : St_spec_l03At → Option Int) (d_0 : SDisk) (name_1 : ByteArray) : Option Int :=
  k (.c0 name_1 (0 : Int) d_0)
noncomputable def B_spec_l03At  (k : St_spec_l03At → Option Int) : St_spec_l03At → Option Int
  | .c0 name_1 i_5 d_2 =>
    bif (decide (i_5 < (d_2.fFiles.length : Int))) then
      bif ((decide (0 ≤ i_5)) && (decide (i_5 < (d_2.fFiles.length : Int)))) then
      bif ((ByteArray.toList (d_2.fFiles.getD i_5.toNat (⟨(⟨#[]⟩ : ByteArray), (⟨#[]⟩ : ByteArray), (0 : Int)⟩ : SFile)).fName) == (ByteArray.toList name_1)) then
        some i_5
      else
        k (.c0 name_1 (w64 (i_5 + 1)) d_2)
      else none
    else
      some (-(1 : Int))
noncomputable def L_spec_l03At : Nat → St_spec_l03At → Option Int
  | 0, _ => none
  | m + 1, s => B_spec_l03At  (L_spec_l03At m) s
noncomputable def spec_l03At (d_0 : SDisk) (name_1 : ByteArray) : Option Int := E_spec_l03At  (L_spec_l03At gas) d_0 name_1
theorem e_spec_l03At  : EntryIs ctx PP 42 [] [] cv13 cv1 at_spec_l03At (fun k a => E_spec_l03At  k a.1 a.2) := fun stop a => by kernel_rfl
theorem b_spec_l03At  : CutIs ctx PP 42 Tryz.f42 [] [] cv1 at_spec_l03At (B_spec_l03At ) := fun stop s => by cases s <;> kernel_rfl
theorem i_spec_l03At : ∀ s s', at_spec_l03At s = at_spec_l03At s' → s = s' := by
  intro s s' h
  cases s with
  | c0 v0 v1 v2 => cases s' with
    | c0 w0 w1 w2 => obtain ⟨_⟩ := v2; obtain ⟨_⟩ := w2; cases h; rfl
theorem ok_spec_l03At : Tells ctx PP 42 cv13 cv1 (fun a => spec_l03At a.1 a.2) := fn_ok hl_nil Tryz.func42 i_spec_l03At (fun _ => rfl) (fun _ _ => rfl) (b_spec_l03At ) (e_spec_l03At ) gas
noncomputable def H_spec_l03At {γ : Type} (F : SDisk → ByteArray → Option Int) : Hd ctx γ := hdl cv13.dec (fun a => F a.1 a.2) cv1.enc
theorem h_spec_l03At {γ : Type} : HdOk (γ := γ) PP 42 (H_spec_l03At spec_l03At) := hd_ok ok_spec_l03At
noncomputable def E_spec_FileAt (spec_l03At : SDisk → ByteArray → Option Int) (d_0 : SDisk) (name_1 : ByteArray) : Option (ByteArray × Bool) :=
  (spec_l03At d_0 name_1).bind fun r0 =>
  bif (decide (r0 < 0)) then
    some ((⟨#[]⟩ : ByteArray), false)
  else
    bif ((decide (0 ≤ r0)) && (decide (r0 < (d_0.fFiles.length : Int)))) then
    some ((d_0.fFiles.getD r0.toNat (⟨(⟨#[]⟩ : ByteArray), (⟨#[]⟩ : ByteArray), (0 : Int)⟩ : SFile)).fText, true)
    else none
noncomputable def spec_FileAt (d_0 : SDisk) (name_1 : ByteArray) : Option (ByteArray × Bool) := E_spec_FileAt spec_l03At d_0 name_1
theorem e_spec_FileAt (spec_l03At : SDisk → ByteArray → Option Int) : EntryIs0 ctx PP 38 [] [(42, H_spec_l03At spec_l03At)] cv13 cv14 (fun a => E_spec_FileAt spec_l03At a.1 a.2) := fun a => by kernel_rfl
theorem ok_spec_FileAt : Tells ctx PP 38 cv13 cv14 (fun a => spec_FileAt a.1 a.2) := fn_ok0 (hl_cons h_spec_l03At hl_nil) Tryz.func38 (e_spec_FileAt spec_l03At)
noncomputable def H_spec_FileAt {γ : Type} (F : SDisk → ByteArray → Option (ByteArray × Bool)) : Hd ctx γ := hdl cv13.dec (fun a => F a.1 a.2) cv14.enc
theorem h_spec_FileAt {γ : Type} : HdOk (γ := γ) PP 38 (H_spec_FileAt spec_FileAt) := hd_ok ok_spec_FileAt
noncomputable def todo_spec_l01Var_0 : List Go.Item := [.code (cAt (bodyOf Tryz.f152) [1, 1, 0, 0, 0, 0, 0]), .code (cAt (bodyOf Tryz.f152) [1, 1, 0, 0, 0, 0, 1]), .code (cAt (bodyOf Tryz.f152) [1, 1, 0, 0, 0, 1]), .inLoop (cAt (bodyOf Tryz.f152) [1, 1, 0, 0, 0]), .inBlock 0, .code (cAt (bodyOf Tryz.f152) [1, 1, 1])]
inductive St_spec_l01Var where
  | c0 (n_0 : Int) (out_3 : (List Int))
noncomputable def at_spec_l01Var : St_spec_l01Var → LI
  | .c0 n_0 out_3 => (todo_spec_l01Var_0, [(0, [.one (.int .i64 n_0)]), (3, [.one (.own 240)])], [(240, .sl 5 out_3)])
noncomputable def E_spec_l01Var  (k : St_spec_l01Var → Option ByteArray) (n_0 : Int) : Option ByteArray :=
  k (.c0 n_0 [])
noncomputable def B_spec_l01Var  (k : St_spec_l01Var → Option ByteArray) : St_spec_l01Var → Option ByteArray
  | .c0 n_0 out_3 =>
    bif (decide (n_0 > 127)) then
      bif (decide (((out_3.length + 1) * 1) ≤ 140737488355328)) then
      k (.c0 (w64 (n_0.tdiv 128)) (out_3 ++ [(w8 (w64 ((n_0.tmod 128) + 128)))]))
      else none
    else
      bif (decide (((out_3.length + 1) * 1) ≤ 140737488355328)) then
      some (ofBytes (out_3 ++ [(w8 n_0)]))
      else none
noncomputable def L_spec_l01Var : Nat → St_spec_l01Var → Option ByteArray
  | 0, _ => none
  | m + 1, s => B_spec_l01Var  (L_spec_l01Var m) s
noncomputable def spec_l01Var (n_0 : Int) : Option ByteArray := E_spec_l01Var  (L_spec_l01Var gas) n_0
theorem e_spec_l01Var  : EntryIs ctx PP 152 [] [] cv1 cv11 at_spec_l01Var (fun k a => E_spec_l01Var  k a) := fun stop a => by kernel_rfl
theorem b_spec_l01Var  : CutIs ctx PP 152 Tryz.f152 [] [] cv11 at_spec_l01Var (B_spec_l01Var ) := fun stop s => by cases s <;> kernel_rfl
theorem i_spec_l01Var : ∀ s s', at_spec_l01Var s = at_spec_l01Var s' → s = s' := by
  intro s s' h
  cases s with
  | c0 v0 v1 => cases s' with
    | c0 w0 w1 => cases h; rfl
theorem ok_spec_l01Var : Tells ctx PP 152 cv1 cv11 (fun a => spec_l01Var a) := fn_ok hl_nil Tryz.func152 i_spec_l01Var (fun _ => rfl) (fun _ _ => rfl) (b_spec_l01Var ) (e_spec_l01Var ) gas
noncomputable def H_spec_l01Var {γ : Type} (F : Int → Option ByteArray) : Hd ctx γ := hdl cv1.dec (fun a => F a) cv11.enc
theorem h_spec_l01Var {γ : Type} : HdOk (γ := γ) PP 152 (H_spec_l01Var spec_l01Var) := hd_ok ok_spec_l01Var
noncomputable def todo_spec_ReadVar_0 : List Go.Item := [.code (cAt (bodyOf Tryz.f142) [1, 1, 1, 1, 0, 1, 0, 0, 0, 0]), .code (cAt (bodyOf Tryz.f142) [1, 1, 1, 1, 0, 1, 0, 0, 0, 1]), .code (cAt (bodyOf Tryz.f142) [1, 1, 1, 1, 0, 1, 0, 0, 1]), .inLoop (cAt (bodyOf Tryz.f142) [1, 1, 1, 1, 0, 1, 0, 0]), .inBlock 0, .code (cAt (bodyOf Tryz.f142) [1, 1, 1, 1, 1])]
inductive St_spec_ReadVar where
  | c0 (text_0 : ByteArray) (at_1 : Int) (n_7 : Int) (scale_8 : Int) (i_9 : Int)
noncomputable def at_spec_ReadVar : St_spec_ReadVar → LI
  | .c0 text_0 at_1 n_7 scale_8 i_9 => (todo_spec_ReadVar_0, [(0, [.one (.str text_0)]), (1, [.one (.int .i64 at_1)]), (7, [.one (.int .i64 n_7)]), (8, [.one (.int .i64 scale_8)]), (9, [.one (.int .i64 i_9)])], [])
noncomputable def E_spec_ReadVar (spec_l01In : Int → Int → Int → Option Bool) (spec_l01Var : Int → Option ByteArray) (k : St_spec_ReadVar → Option (Int × Int × Bool)) (text_0 : ByteArray) (at_1 : Int) : Option (Int × Int × Bool) :=
  (spec_l01In at_1 (0 : Int) (text_0.size : Int)).bind fun r0 =>
  bif (!r0) then
    some ((0 : Int), ((0 : Int), false))
  else
    k (.c0 text_0 at_1 (0 : Int) (1 : Int) at_1)
noncomputable def B_spec_ReadVar (spec_l01In : Int → Int → Int → Option Bool) (spec_l01Var : Int → Option ByteArray) (k : St_spec_ReadVar → Option (Int × Int × Bool)) : St_spec_ReadVar → Option (Int × Int × Bool)
  | .c0 text_0 at_1 n_7 scale_8 i_9 =>
    bif (decide (i_9 < (text_0.size : Int))) then
      bif (decide (i_9 < (w64 (at_1 + 5)))) then
        bif ((decide (0 ≤ i_9)) && (decide (i_9 < (text_0.size : Int)))) then
        bif ((decide (0 ≤ i_9)) && (decide (i_9 < (text_0.size : Int)))) then
        bif (decide ((bt text_0 i_9) < 128)) then
          bif (decide ((w64 (n_7 + (w64 (((w64 (bt text_0 i_9)).tmod 128) * scale_8)))) > 1000000000)) then
            some ((0 : Int), ((0 : Int), false))
          else
            (spec_l01Var (w64 (n_7 + (w64 (((w64 (bt text_0 i_9)).tmod 128) * scale_8))))).bind fun r0 =>
            bif (((decide (0 ≤ at_1)) && (decide (at_1 ≤ (w64 (i_9 + 1))))) && (decide ((w64 (i_9 + 1)) ≤ (text_0.size : Int)))) then
            bif (!((ByteArray.toList r0) == (ByteArray.toList (text_0.extract at_1.toNat (w64 (i_9 + 1)).toNat)))) then
              some ((0 : Int), ((0 : Int), false))
            else
              some ((w64 (n_7 + (w64 (((w64 (bt text_0 i_9)).tmod 128) * scale_8)))), ((w64 (i_9 + 1)), true))
            else none
        else
          k (.c0 text_0 at_1 (w64 (n_7 + (w64 (((w64 (bt text_0 i_9)).tmod 128) * scale_8)))) (w64 (scale_8 * 128)) (w64 (i_9 + 1)))
        else none
        else none
      else
        some ((0 : Int), ((0 : Int), false))
    else
      some ((0 : Int), ((0 : Int), false))
noncomputable def L_spec_ReadVar : Nat → St_spec_ReadVar → Option (Int × Int × Bool)
  | 0, _ => none
  | m + 1, s => B_spec_ReadVar spec_l01In spec_l01Var (L_spec_ReadVar m) s
noncomputable def spec_ReadVar (text_0 : ByteArray) (at_1 : Int) : Option (Int × Int × Bool) := E_spec_ReadVar spec_l01In spec_l01Var (L_spec_ReadVar gas) text_0 at_1
theorem e_spec_ReadVar (spec_l01In : Int → Int → Int → Option Bool) (spec_l01Var : Int → Option ByteArray) : EntryIs ctx PP 142 [] [(60, H_spec_l01In spec_l01In), (152, H_spec_l01Var spec_l01Var)] cv15 cv16 at_spec_ReadVar (fun k a => E_spec_ReadVar spec_l01In spec_l01Var k a.1 a.2) := fun stop a => by kernel_rfl
theorem b_spec_ReadVar (spec_l01In : Int → Int → Int → Option Bool) (spec_l01Var : Int → Option ByteArray) : CutIs ctx PP 142 Tryz.f142 [] [(60, H_spec_l01In spec_l01In), (152, H_spec_l01Var spec_l01Var)] cv16 at_spec_ReadVar (B_spec_ReadVar spec_l01In spec_l01Var) := fun stop s => by cases s <;> kernel_rfl
theorem i_spec_ReadVar : ∀ s s', at_spec_ReadVar s = at_spec_ReadVar s' → s = s' := by
  intro s s' h
  cases s with
  | c0 v0 v1 v2 v3 v4 => cases s' with
    | c0 w0 w1 w2 w3 w4 => cases h; rfl
theorem ok_spec_ReadVar : Tells ctx PP 142 cv15 cv16 (fun a => spec_ReadVar a.1 a.2) := fn_ok (hl_cons h_spec_l01In (hl_cons h_spec_l01Var hl_nil)) Tryz.func142 i_spec_ReadVar (fun _ => rfl) (fun _ _ => rfl) (b_spec_ReadVar spec_l01In spec_l01Var) (e_spec_ReadVar spec_l01In spec_l01Var) gas
noncomputable def H_spec_ReadVar {γ : Type} (F : ByteArray → Int → Option (Int × Int × Bool)) : Hd ctx γ := hdl cv15.dec (fun a => F a.1 a.2) cv16.enc
theorem h_spec_ReadVar {γ : Type} : HdOk (γ := γ) PP 142 (H_spec_ReadVar spec_ReadVar) := hd_ok ok_spec_ReadVar
noncomputable def todo_spec_SumMore_0 : List Go.Item := [.code (cAt (bodyOf Tryz.f185) [1, 0, 1, 0, 0, 0, 0]), .code (cAt (bodyOf Tryz.f185) [1, 0, 1, 0, 0, 0, 1]), .code (cAt (bodyOf Tryz.f185) [1, 0, 1, 0, 0, 1]), .inLoop (cAt (bodyOf Tryz.f185) [1, 0, 1, 0, 0]), .inBlock 0, .code (cAt (bodyOf Tryz.f185) [1, 1])]
noncomputable def todo_spec_SumMore_1 : List Go.Item := [.code (cAt (bodyOf Tryz.f185) [1, 0, 1, 0, 0, 1, 0, 0, 1, 1, 0, 0, 0, 0]), .code (cAt (bodyOf Tryz.f185) [1, 0, 1, 0, 0, 1, 0, 0, 1, 1, 0, 0, 0, 1]), .code (cAt (bodyOf Tryz.f185) [1, 0, 1, 0, 0, 1, 0, 0, 1, 1, 0, 0, 1]), .inLoop (cAt (bodyOf Tryz.f185) [1, 0, 1, 0, 0, 1, 0, 0, 1, 1, 0, 0]), .inBlock 2, .inBlock 1, .code (cAt (bodyOf Tryz.f185) [1, 0, 1, 0, 0, 1, 1]), .inLoop (cAt (bodyOf Tryz.f185) [1, 0, 1, 0, 0]), .inBlock 0, .code (cAt (bodyOf Tryz.f185) [1, 1])]
inductive St_spec_SumMore where
  | c0 (sum_0 : Int) (text_1 : ByteArray) (i_5 : Int)
  | c1 (sum_0 : Int) (text_1 : ByteArray) (i_5 : Int) (k_6 : Int)
noncomputable def at_spec_SumMore : St_spec_SumMore → LI
  | .c0 sum_0 text_1 i_5 => (todo_spec_SumMore_0, [(0, [.one (.int .u32 sum_0)]), (1, [.one (.str text_1)]), (5, [.one (.int .i64 i_5)])], [])
  | .c1 sum_0 text_1 i_5 k_6 => (todo_spec_SumMore_1, [(0, [.one (.int .u32 sum_0)]), (1, [.one (.str text_1)]), (5, [.one (.int .i64 i_5)]), (6, [.one (.int .i64 k_6)])], [])
noncomputable def E_spec_SumMore  (k : St_spec_SumMore → Option Int) (sum_0 : Int) (text_1 : ByteArray) : Option Int :=
  k (.c0 sum_0 text_1 (0 : Int))
noncomputable def B_spec_SumMore  (k : St_spec_SumMore → Option Int) : St_spec_SumMore → Option Int
  | .c0 sum_0 text_1 i_5 =>
    bif (decide (i_5 < (text_1.size : Int))) then
      bif ((decide (0 ≤ i_5)) && (decide (i_5 < (text_1.size : Int)))) then
      k (.c1 (w32 (((BitVec.toNat ((BitVec.ofInt (IntKind.bits IntKind.u32) sum_0) ^^^ (BitVec.ofInt (IntKind.bits IntKind.u32) (w32 (bt text_1 i_5))))) : Nat) : Int)) text_1 i_5 (0 : Int))
      else none
    else
      some sum_0
  | .c1 sum_0 text_1 i_5 k_6 =>
    bif (decide (k_6 < 8)) then
      bif ((sum_0.tmod 2) == 1) then
        k (.c1 (w32 (((BitVec.toNat ((BitVec.ofInt (IntKind.bits IntKind.u32) (w32 (sum_0.tdiv 2))) ^^^ (BitVec.ofInt (IntKind.bits IntKind.u32) (3558460437 : Int)))) : Nat) : Int)) text_1 i_5 (w64 (k_6 + 1)))
      else
        k (.c1 (w32 (sum_0.tdiv 2)) text_1 i_5 (w64 (k_6 + 1)))
    else
      k (.c0 sum_0 text_1 (w64 (i_5 + 1)))
noncomputable def L_spec_SumMore : Nat → St_spec_SumMore → Option Int
  | 0, _ => none
  | m + 1, s => B_spec_SumMore  (L_spec_SumMore m) s
noncomputable def spec_SumMore (sum_0 : Int) (text_1 : ByteArray) : Option Int := E_spec_SumMore  (L_spec_SumMore gas) sum_0 text_1
theorem e_spec_SumMore  : EntryIs ctx PP 185 [] [] cv17 cv18 at_spec_SumMore (fun k a => E_spec_SumMore  k a.1 a.2) := fun stop a => by kernel_rfl
theorem b_spec_SumMore  : CutIs ctx PP 185 Tryz.f185 [] [] cv18 at_spec_SumMore (B_spec_SumMore ) := fun stop s => by cases s <;> kernel_rfl
theorem i_spec_SumMore : ∀ s s', at_spec_SumMore s = at_spec_SumMore s' → s = s' := by
  intro s s' h
  cases s with
  | c0 v0 v1 v2 => cases s' with
    | c0 w0 w1 w2 => cases h; rfl
    | c1 w0 w1 w2 w3 => exact (region_ne 2 6 h (by kernel_rfl) (by kernel_rfl) rfl).elim
  | c1 v0 v1 v2 v3 => cases s' with
    | c0 w0 w1 w2 => exact (region_ne 6 2 h (by kernel_rfl) (by kernel_rfl) rfl).elim
    | c1 w0 w1 w2 w3 => cases h; rfl
theorem ok_spec_SumMore : Tells ctx PP 185 cv17 cv18 (fun a => spec_SumMore a.1 a.2) := fn_ok hl_nil Tryz.func185 i_spec_SumMore (fun _ => rfl) (fun _ _ => rfl) (b_spec_SumMore ) (e_spec_SumMore ) gas
noncomputable def H_spec_SumMore {γ : Type} (F : Int → ByteArray → Option Int) : Hd ctx γ := hdl cv17.dec (fun a => F a.1 a.2) cv18.enc
theorem h_spec_SumMore {γ : Type} : HdOk (γ := γ) PP 185 (H_spec_SumMore spec_SumMore) := hd_ok ok_spec_SumMore
noncomputable def E_spec_SumOf (spec_SumMore : Int → ByteArray → Option Int) (text_0 : ByteArray) : Option Int :=
  (spec_SumMore (4294967295 : Int) text_0).bind fun r0 =>
  some r0
noncomputable def spec_SumOf (text_0 : ByteArray) : Option Int := E_spec_SumOf spec_SumMore text_0
theorem e_spec_SumOf (spec_SumMore : Int → ByteArray → Option Int) : EntryIs0 ctx PP 154 [] [(185, H_spec_SumMore spec_SumMore)] cv11 cv18 (fun a => E_spec_SumOf spec_SumMore a) := fun a => by kernel_rfl
theorem ok_spec_SumOf : Tells ctx PP 154 cv11 cv18 (fun a => spec_SumOf a) := fn_ok0 (hl_cons h_spec_SumMore hl_nil) Tryz.func154 (e_spec_SumOf spec_SumMore)
noncomputable def H_spec_SumOf {γ : Type} (F : ByteArray → Option Int) : Hd ctx γ := hdl cv11.dec (fun a => F a) cv18.enc
theorem h_spec_SumOf {γ : Type} : HdOk (γ := γ) PP 154 (H_spec_SumOf spec_SumOf) := hd_ok ok_spec_SumOf
noncomputable def E_spec_l02Four  (x_0 : Int) : Option ByteArray :=
  some (ofBytes [(w8 (Int.fdiv x_0 (2 ^ (Min.min (24 : Int).toNat (IntKind.bits IntKind.u32))))), (w8 (Int.fdiv x_0 (2 ^ (Min.min (16 : Int).toNat (IntKind.bits IntKind.u32))))), (w8 (Int.fdiv x_0 (2 ^ (Min.min (8 : Int).toNat (IntKind.bits IntKind.u32))))), (w8 x_0)])
noncomputable def spec_l02Four (x_0 : Int) : Option ByteArray := E_spec_l02Four  x_0
theorem e_spec_l02Four  : EntryIs0 ctx PP 153 [] [] cv18 cv11 (fun a => E_spec_l02Four  a) := fun a => by kernel_rfl
theorem ok_spec_l02Four : Tells ctx PP 153 cv18 cv11 (fun a => spec_l02Four a) := fn_ok0 hl_nil Tryz.func153 (e_spec_l02Four )
noncomputable def H_spec_l02Four {γ : Type} (F : Int → Option ByteArray) : Hd ctx γ := hdl cv18.dec (fun a => F a) cv11.enc
theorem h_spec_l02Four {γ : Type} : HdOk (γ := γ) PP 153 (H_spec_l02Four spec_l02Four) := hd_ok ok_spec_l02Four
noncomputable def E_spec_Frame (spec_l01In : Int → Int → Int → Option Bool) (spec_l01Var : Int → Option ByteArray) (spec_SumOf : ByteArray → Option Int) (spec_l02Four : Int → Option ByteArray) (text_0 : ByteArray) : Option (ByteArray × Bool) :=
  (spec_l01In (text_0.size : Int) (1 : Int) (9000 : Int)).bind fun r0 =>
  bif (!r0) then
    some ((⟨#[]⟩ : ByteArray), false)
  else
    (spec_l01Var (text_0.size : Int)).bind fun r1 =>
    (spec_SumOf text_0).bind fun r2 =>
    (spec_l02Four r2).bind fun r3 =>
    bif (decide ((r1.size + r3.size) ≤ 9223372036854775807)) then
    bif (decide (((r1 ++ r3).size + text_0.size) ≤ 9223372036854775807)) then
    some (((r1 ++ r3) ++ text_0), true)
    else none
    else none
noncomputable def spec_Frame (text_0 : ByteArray) : Option (ByteArray × Bool) := E_spec_Frame spec_l01In spec_l01Var spec_SumOf spec_l02Four text_0
theorem e_spec_Frame (spec_l01In : Int → Int → Int → Option Bool) (spec_l01Var : Int → Option ByteArray) (spec_SumOf : ByteArray → Option Int) (spec_l02Four : Int → Option ByteArray) : EntryIs0 ctx PP 105 [] [(60, H_spec_l01In spec_l01In), (152, H_spec_l01Var spec_l01Var), (154, H_spec_SumOf spec_SumOf), (153, H_spec_l02Four spec_l02Four)] cv11 cv14 (fun a => E_spec_Frame spec_l01In spec_l01Var spec_SumOf spec_l02Four a) := fun a => by kernel_rfl
theorem ok_spec_Frame : Tells ctx PP 105 cv11 cv14 (fun a => spec_Frame a) := fn_ok0 (hl_cons h_spec_l01In (hl_cons h_spec_l01Var (hl_cons h_spec_SumOf (hl_cons h_spec_l02Four hl_nil)))) Tryz.func105 (e_spec_Frame spec_l01In spec_l01Var spec_SumOf spec_l02Four)
noncomputable def H_spec_Frame {γ : Type} (F : ByteArray → Option (ByteArray × Bool)) : Hd ctx γ := hdl cv11.dec (fun a => F a) cv14.enc
theorem h_spec_Frame {γ : Type} : HdOk (γ := γ) PP 105 (H_spec_Frame spec_Frame) := hd_ok ok_spec_Frame
noncomputable def todo_spec_Unframe_0 : List Go.Item := [.code (cAt (bodyOf Tryz.f102) [1, 1, 1, 1, 0, 0, 0, 0, 0]), .code (cAt (bodyOf Tryz.f102) [1, 1, 1, 1, 0, 0, 0, 0, 1]), .code (cAt (bodyOf Tryz.f102) [1, 1, 1, 1, 0, 0, 0, 1]), .inLoop (cAt (bodyOf Tryz.f102) [1, 1, 1, 1, 0, 0, 0]), .inBlock 0, .code (cAt (bodyOf Tryz.f102) [1, 1, 1, 1, 1])]
inductive St_spec_Unframe where
  | c0 (file_0 : ByteArray) (at_5 : Int) (out_4 : (List ByteArray))
noncomputable def at_spec_Unframe : St_spec_Unframe → LI
  | .c0 file_0 at_5 out_4 => (todo_spec_Unframe_0, [(0, [.one (.str file_0)]), (4, [.one (.own 304)]), (5, [.one (.int .i64 at_5)])], [(304, .sl 9 out_4)])
noncomputable def E_spec_Unframe (spec_ReadVar : ByteArray → Int → Option (Int × Int × Bool)) (spec_Frame : ByteArray → Option (ByteArray × Bool)) (k : St_spec_Unframe → Option ((List ByteArray) × Int)) (file_0 : ByteArray) : Option ((List ByteArray) × Int) :=
  bif (decide ((file_0.size : Int) > 20000)) then
    some ([], (0 : Int))
  else
    k (.c0 file_0 (0 : Int) [])
noncomputable def B_spec_Unframe (spec_ReadVar : ByteArray → Int → Option (Int × Int × Bool)) (spec_Frame : ByteArray → Option (ByteArray × Bool)) (k : St_spec_Unframe → Option ((List ByteArray) × Int)) : St_spec_Unframe → Option ((List ByteArray) × Int)
  | .c0 file_0 at_5 out_4 =>
    bif (decide (at_5 < (file_0.size : Int))) then
      (spec_ReadVar file_0 at_5).bind fun r0 =>
      bif (!r0.2.2) then
        some (out_4, at_5)
      else
        bif (decide (r0.1 > (w64 ((w64 ((file_0.size : Int) - r0.2.1)) - 4)))) then
          some (out_4, at_5)
        else
          bif (((decide (0 ≤ (w64 (r0.2.1 + 4)))) && (decide ((w64 (r0.2.1 + 4)) ≤ (w64 ((w64 (r0.2.1 + 4)) + r0.1))))) && (decide ((w64 ((w64 (r0.2.1 + 4)) + r0.1)) ≤ (file_0.size : Int)))) then
          (spec_Frame (file_0.extract (w64 (r0.2.1 + 4)).toNat (w64 ((w64 (r0.2.1 + 4)) + r0.1)).toNat)).bind fun r1 =>
          bif (!r1.2) then
            some (out_4, at_5)
          else
            bif (((decide (0 ≤ at_5)) && (decide (at_5 ≤ (w64 ((w64 (r0.2.1 + 4)) + r0.1))))) && (decide ((w64 ((w64 (r0.2.1 + 4)) + r0.1)) ≤ (file_0.size : Int)))) then
            bif (!((ByteArray.toList r1.1) == (ByteArray.toList (file_0.extract at_5.toNat (w64 ((w64 (r0.2.1 + 4)) + r0.1)).toNat)))) then
              some (out_4, at_5)
            else
              bif (decide (((out_4.length + 1) * 16) ≤ 140737488355328)) then
              k (.c0 file_0 (w64 ((w64 (r0.2.1 + 4)) + r0.1)) (out_4 ++ [(file_0.extract (w64 (r0.2.1 + 4)).toNat (w64 ((w64 (r0.2.1 + 4)) + r0.1)).toNat)]))
              else none
            else none
          else none
    else
      some (out_4, at_5)
noncomputable def L_spec_Unframe : Nat → St_spec_Unframe → Option ((List ByteArray) × Int)
  | 0, _ => none
  | m + 1, s => B_spec_Unframe spec_ReadVar spec_Frame (L_spec_Unframe m) s
noncomputable def spec_Unframe (file_0 : ByteArray) : Option ((List ByteArray) × Int) := E_spec_Unframe spec_ReadVar spec_Frame (L_spec_Unframe gas) file_0
theorem e_spec_Unframe (spec_ReadVar : ByteArray → Int → Option (Int × Int × Bool)) (spec_Frame : ByteArray → Option (ByteArray × Bool)) : EntryIs ctx PP 102 [] [(142, H_spec_ReadVar spec_ReadVar), (105, H_spec_Frame spec_Frame)] cv11 cv19 at_spec_Unframe (fun k a => E_spec_Unframe spec_ReadVar spec_Frame k a) := fun stop a => by kernel_rfl
theorem b_spec_Unframe (spec_ReadVar : ByteArray → Int → Option (Int × Int × Bool)) (spec_Frame : ByteArray → Option (ByteArray × Bool)) : CutIs ctx PP 102 Tryz.f102 [] [(142, H_spec_ReadVar spec_ReadVar), (105, H_spec_Frame spec_Frame)] cv19 at_spec_Unframe (B_spec_Unframe spec_ReadVar spec_Frame) := fun stop s => by cases s <;> kernel_rfl
theorem i_spec_Unframe : ∀ s s', at_spec_Unframe s = at_spec_Unframe s' → s = s' := by
  intro s s' h
  cases s with
  | c0 v0 v1 v2 => cases s' with
    | c0 w0 w1 w2 => cases h; rfl
theorem ok_spec_Unframe : Tells ctx PP 102 cv11 cv19 (fun a => spec_Unframe a) := fn_ok (hl_cons h_spec_ReadVar (hl_cons h_spec_Frame hl_nil)) Tryz.func102 i_spec_Unframe (fun _ => rfl) (fun _ _ => rfl) (b_spec_Unframe spec_ReadVar spec_Frame) (e_spec_Unframe spec_ReadVar spec_Frame) gas
noncomputable def H_spec_Unframe {γ : Type} (F : ByteArray → Option ((List ByteArray) × Int)) : Hd ctx γ := hdl cv11.dec (fun a => F a) cv19.enc
theorem h_spec_Unframe {γ : Type} : HdOk (γ := γ) PP 102 (H_spec_Unframe spec_Unframe) := hd_ok ok_spec_Unframe
noncomputable def E_spec_l06Byte  (n_0 : Int) : Option ByteArray :=
  bif (decide ((n_0.tmod 256) < 0)) then
    some (ofBytes [(w8 (w64 ((n_0.tmod 256) + 256)))])
  else
    some (ofBytes [(w8 (n_0.tmod 256))])
noncomputable def spec_l06Byte (n_0 : Int) : Option ByteArray := E_spec_l06Byte  n_0
theorem e_spec_l06Byte  : EntryIs0 ctx PP 182 [] [] cv1 cv11 (fun a => E_spec_l06Byte  a) := fun a => by kernel_rfl
theorem ok_spec_l06Byte : Tells ctx PP 182 cv1 cv11 (fun a => spec_l06Byte a) := fn_ok0 hl_nil Tryz.func182 (e_spec_l06Byte )
noncomputable def H_spec_l06Byte {γ : Type} (F : Int → Option ByteArray) : Hd ctx γ := hdl cv1.dec (fun a => F a) cv11.enc
theorem h_spec_l06Byte {γ : Type} : HdOk (γ := γ) PP 182 (H_spec_l06Byte spec_l06Byte) := hd_ok ok_spec_l06Byte
noncomputable def E_spec_l05First   : Option (List Int) :=
  some [(1779033703 : Int), (3144134277 : Int), (1013904242 : Int), (2773480762 : Int), (1359893119 : Int), (2600822924 : Int), (528734635 : Int), (1541459225 : Int)]
noncomputable def spec_l05First  : Option (List Int) := E_spec_l05First  
theorem e_spec_l05First  : EntryIs0 ctx PP 191 [] [] cv20 cv21 (fun _ => E_spec_l05First  ) := fun a => by kernel_rfl
theorem ok_spec_l05First : Tells ctx PP 191 cv20 cv21 (fun _ => spec_l05First ) := fn_ok0 hl_nil Tryz.func191 (e_spec_l05First )
noncomputable def H_spec_l05First {γ : Type} (F : Option (List Int)) : Hd ctx γ := hdl cv20.dec (fun _ => F ) cv21.enc
theorem h_spec_l05First {γ : Type} : HdOk (γ := γ) PP 191 (H_spec_l05First spec_l05First) := hd_ok ok_spec_l05First
noncomputable def todo_spec_l05Bytes_0 : List Go.Item := [.code (cAt (bodyOf Tryz.f190) [1, 1, 0, 1, 0, 0, 0, 0]), .code (cAt (bodyOf Tryz.f190) [1, 1, 0, 1, 0, 0, 0, 1]), .code (cAt (bodyOf Tryz.f190) [1, 1, 0, 1, 0, 0, 1]), .inLoop (cAt (bodyOf Tryz.f190) [1, 1, 0, 1, 0, 0]), .inBlock 0, .code (cAt (bodyOf Tryz.f190) [1, 1, 1])]
inductive St_spec_l05Bytes where
  | c0 (words_0 : (List Int)) (i_4 : Int) (out_3 : (List Int))
noncomputable def at_spec_l05Bytes : St_spec_l05Bytes → LI
  | .c0 words_0 i_4 out_3 => (todo_spec_l05Bytes_0, [(0, [.one (.rsl 192 words_0)]), (3, [.one (.own 240)]), (4, [.one (.int .i64 i_4)])], [(240, .sl 5 out_3)])
noncomputable def E_spec_l05Bytes  (k : St_spec_l05Bytes → Option ByteArray) (words_0 : (List Int)) : Option ByteArray :=
  k (.c0 words_0 (0 : Int) [])
noncomputable def B_spec_l05Bytes  (k : St_spec_l05Bytes → Option ByteArray) : St_spec_l05Bytes → Option ByteArray
  | .c0 words_0 i_4 out_3 =>
    bif (decide (i_4 < (words_0.length : Int))) then
      bif ((decide (0 ≤ i_4)) && (decide (i_4 < (words_0.length : Int)))) then
      bif (decide (((out_3.length + 4) * 1) ≤ 140737488355328)) then
      k (.c0 words_0 (w64 (i_4 + 1)) (out_3 ++ [(w8 (w32 ((words_0.getD i_4.toNat 0).tdiv 16777216))), (w8 ((w32 ((words_0.getD i_4.toNat 0).tdiv 65536)).tmod 256)), (w8 ((w32 ((words_0.getD i_4.toNat 0).tdiv 256)).tmod 256)), (w8 ((words_0.getD i_4.toNat 0).tmod 256))]))
      else none
      else none
    else
      some (ofBytes out_3)
noncomputable def L_spec_l05Bytes : Nat → St_spec_l05Bytes → Option ByteArray
  | 0, _ => none
  | m + 1, s => B_spec_l05Bytes  (L_spec_l05Bytes m) s
noncomputable def spec_l05Bytes (words_0 : (List Int)) : Option ByteArray := E_spec_l05Bytes  (L_spec_l05Bytes gas) words_0
theorem e_spec_l05Bytes  : EntryIs ctx PP 190 [] [] cv22 cv11 at_spec_l05Bytes (fun k a => E_spec_l05Bytes  k a) := fun stop a => by kernel_rfl
theorem b_spec_l05Bytes  : CutIs ctx PP 190 Tryz.f190 [] [] cv11 at_spec_l05Bytes (B_spec_l05Bytes ) := fun stop s => by cases s <;> kernel_rfl
theorem i_spec_l05Bytes : ∀ s s', at_spec_l05Bytes s = at_spec_l05Bytes s' → s = s' := by
  intro s s' h
  cases s with
  | c0 v0 v1 v2 => cases s' with
    | c0 w0 w1 w2 => cases h; rfl
theorem ok_spec_l05Bytes : Tells ctx PP 190 cv22 cv11 (fun a => spec_l05Bytes a) := fn_ok hl_nil Tryz.func190 i_spec_l05Bytes (fun _ => rfl) (fun _ _ => rfl) (b_spec_l05Bytes ) (e_spec_l05Bytes ) gas
noncomputable def H_spec_l05Bytes {γ : Type} (F : (List Int) → Option ByteArray) : Hd ctx γ := hdl cv22.dec (fun a => F a) cv11.enc
theorem h_spec_l05Bytes {γ : Type} : HdOk (γ := γ) PP 190 (H_spec_l05Bytes spec_l05Bytes) := hd_ok ok_spec_l05Bytes
noncomputable def E_spec_HasherNew (spec_l05First : Option (List Int)) (spec_l05Bytes : (List Int) → Option ByteArray)  : Option SHasher :=
  spec_l05First.bind fun r0 =>
  (spec_l05Bytes r0).bind fun r1 =>
  some (⟨r1, (⟨#[]⟩ : ByteArray), (0 : Int)⟩ : SHasher)
noncomputable def spec_HasherNew  : Option SHasher := E_spec_HasherNew spec_l05First spec_l05Bytes 
theorem e_spec_HasherNew (spec_l05First : Option (List Int)) (spec_l05Bytes : (List Int) → Option ByteArray) : EntryIs0 ctx PP 159 [] [(191, H_spec_l05First spec_l05First), (190, H_spec_l05Bytes spec_l05Bytes)] cv20 cv23 (fun _ => E_spec_HasherNew spec_l05First spec_l05Bytes ) := fun a => by kernel_rfl
theorem ok_spec_HasherNew : Tells ctx PP 159 cv20 cv23 (fun _ => spec_HasherNew ) := fn_ok0 (hl_cons h_spec_l05First (hl_cons h_spec_l05Bytes hl_nil)) Tryz.func159 (e_spec_HasherNew spec_l05First spec_l05Bytes)
noncomputable def H_spec_HasherNew {γ : Type} (F : Option SHasher) : Hd ctx γ := hdl cv20.dec (fun _ => F ) cv23.enc
theorem h_spec_HasherNew {γ : Type} : HdOk (γ := γ) PP 159 (H_spec_HasherNew spec_HasherNew) := hd_ok ok_spec_HasherNew
noncomputable def E_spec_HasherOk (spec_l01In : Int → Int → Int → Option Bool) (h_0 : SHasher) : Option Bool :=
  bif ((h_0.fState.size : Int) == 32) then
    bif (decide ((h_0.fRest.size : Int) < 64)) then
      (spec_l01In h_0.fCount (0 : Int) (1000000000 : Int)).bind fun r0 =>
      bif r0 then
        some ((h_0.fCount.tmod 64) == (h_0.fRest.size : Int))
      else
        some false
    else
      some false
  else
    some false
noncomputable def spec_HasherOk (h_0 : SHasher) : Option Bool := E_spec_HasherOk spec_l01In h_0
theorem e_spec_HasherOk (spec_l01In : Int → Int → Int → Option Bool) : EntryIs0 ctx PP 186 [] [(60, H_spec_l01In spec_l01In)] cv23 cv10 (fun a => E_spec_HasherOk spec_l01In a) := fun a => by kernel_rfl
theorem ok_spec_HasherOk : Tells ctx PP 186 cv23 cv10 (fun a => spec_HasherOk a) := fn_ok0 (hl_cons h_spec_l01In hl_nil) Tryz.func186 (e_spec_HasherOk spec_l01In)
noncomputable def H_spec_HasherOk {γ : Type} (F : SHasher → Option Bool) : Hd ctx γ := hdl cv23.dec (fun a => F a) cv10.enc
theorem h_spec_HasherOk {γ : Type} : HdOk (γ := γ) PP 186 (H_spec_HasherOk spec_HasherOk) := hd_ok ok_spec_HasherOk
noncomputable def E_spec_l05Word  (s_0 : ByteArray) (at_1 : Int) : Option Int :=
  bif ((decide (0 ≤ at_1)) && (decide (at_1 < (s_0.size : Int)))) then
  bif ((decide (0 ≤ (w64 (at_1 + 1)))) && (decide ((w64 (at_1 + 1)) < (s_0.size : Int)))) then
  bif ((decide (0 ≤ (w64 (at_1 + 2)))) && (decide ((w64 (at_1 + 2)) < (s_0.size : Int)))) then
  bif ((decide (0 ≤ (w64 (at_1 + 3)))) && (decide ((w64 (at_1 + 3)) < (s_0.size : Int)))) then
  some (w32 ((w32 ((w32 ((w32 ((w32 (bt s_0 at_1)) * 16777216)) + (w32 ((w32 (bt s_0 (w64 (at_1 + 1)))) * 65536)))) + (w32 ((w32 (bt s_0 (w64 (at_1 + 2)))) * 256)))) + (w32 (bt s_0 (w64 (at_1 + 3))))))
  else none
  else none
  else none
  else none
noncomputable def spec_l05Word (s_0 : ByteArray) (at_1 : Int) : Option Int := E_spec_l05Word  s_0 at_1
theorem e_spec_l05Word  : EntryIs0 ctx PP 205 [] [] cv15 cv18 (fun a => E_spec_l05Word  a.1 a.2) := fun a => by kernel_rfl
theorem ok_spec_l05Word : Tells ctx PP 205 cv15 cv18 (fun a => spec_l05Word a.1 a.2) := fn_ok0 hl_nil Tryz.func205 (e_spec_l05Word )
noncomputable def H_spec_l05Word {γ : Type} (F : ByteArray → Int → Option Int) : Hd ctx γ := hdl cv15.dec (fun a => F a.1 a.2) cv18.enc
theorem h_spec_l05Word {γ : Type} : HdOk (γ := γ) PP 205 (H_spec_l05Word spec_l05Word) := hd_ok ok_spec_l05Word
noncomputable def todo_spec_l05Words_0 : List Go.Item := [.code (cAt (bodyOf Tryz.f187) [1, 1, 0, 1, 0, 0, 0, 0]), .code (cAt (bodyOf Tryz.f187) [1, 1, 0, 1, 0, 0, 0, 1]), .code (cAt (bodyOf Tryz.f187) [1, 1, 0, 1, 0, 0, 1]), .inLoop (cAt (bodyOf Tryz.f187) [1, 1, 0, 1, 0, 0]), .inBlock 0, .code (cAt (bodyOf Tryz.f187) [1, 1, 1])]
inductive St_spec_l05Words where
  | c0 (s_0 : ByteArray) (i_4 : Int) (out_3 : (List Int))
noncomputable def at_spec_l05Words : St_spec_l05Words → LI
  | .c0 s_0 i_4 out_3 => (todo_spec_l05Words_0, [(0, [.one (.str s_0)]), (3, [.one (.own 240)]), (4, [.one (.int .i64 i_4)])], [(240, .sl 192 out_3)])
noncomputable def E_spec_l05Words (spec_l05Word : ByteArray → Int → Option Int) (k : St_spec_l05Words → Option (List Int)) (s_0 : ByteArray) : Option (List Int) :=
  k (.c0 s_0 (0 : Int) [])
noncomputable def B_spec_l05Words (spec_l05Word : ByteArray → Int → Option Int) (k : St_spec_l05Words → Option (List Int)) : St_spec_l05Words → Option (List Int)
  | .c0 s_0 i_4 out_3 =>
    bif (decide ((w64 (i_4 + 4)) ≤ (s_0.size : Int))) then
      (spec_l05Word s_0 i_4).bind fun r0 =>
      bif (decide (((out_3.length + 1) * 4) ≤ 140737488355328)) then
      k (.c0 s_0 (w64 (i_4 + 4)) (out_3 ++ [r0]))
      else none
    else
      some out_3
noncomputable def L_spec_l05Words : Nat → St_spec_l05Words → Option (List Int)
  | 0, _ => none
  | m + 1, s => B_spec_l05Words spec_l05Word (L_spec_l05Words m) s
noncomputable def spec_l05Words (s_0 : ByteArray) : Option (List Int) := E_spec_l05Words spec_l05Word (L_spec_l05Words gas) s_0
theorem e_spec_l05Words (spec_l05Word : ByteArray → Int → Option Int) : EntryIs ctx PP 187 [] [(205, H_spec_l05Word spec_l05Word)] cv11 cv21 at_spec_l05Words (fun k a => E_spec_l05Words spec_l05Word k a) := fun stop a => by kernel_rfl
theorem b_spec_l05Words (spec_l05Word : ByteArray → Int → Option Int) : CutIs ctx PP 187 Tryz.f187 [] [(205, H_spec_l05Word spec_l05Word)] cv21 at_spec_l05Words (B_spec_l05Words spec_l05Word) := fun stop s => by cases s <;> kernel_rfl
theorem i_spec_l05Words : ∀ s s', at_spec_l05Words s = at_spec_l05Words s' → s = s' := by
  intro s s' h
  cases s with
  | c0 v0 v1 v2 => cases s' with
    | c0 w0 w1 w2 => cases h; rfl
theorem ok_spec_l05Words : Tells ctx PP 187 cv11 cv21 (fun a => spec_l05Words a) := fn_ok (hl_cons h_spec_l05Word hl_nil) Tryz.func187 i_spec_l05Words (fun _ => rfl) (fun _ _ => rfl) (b_spec_l05Words spec_l05Word) (e_spec_l05Words spec_l05Word) gas
noncomputable def H_spec_l05Words {γ : Type} (F : ByteArray → Option (List Int)) : Hd ctx γ := hdl cv11.dec (fun a => F a) cv21.enc
theorem h_spec_l05Words {γ : Type} : HdOk (γ := γ) PP 187 (H_spec_l05Words spec_l05Words) := hd_ok ok_spec_l05Words
noncomputable def E_spec_l05K   : Option (List Int) :=
  some [(1116352408 : Int), (1899447441 : Int), (3049323471 : Int), (3921009573 : Int), (961987163 : Int), (1508970993 : Int), (2453635748 : Int), (2870763221 : Int), (3624381080 : Int), (310598401 : Int), (607225278 : Int), (1426881987 : Int), (1925078388 : Int), (2162078206 : Int), (2614888103 : Int), (3248222580 : Int), (3835390401 : Int), (4022224774 : Int), (264347078 : Int), (604807628 : Int), (770255983 : Int), (1249150122 : Int), (1555081692 : Int), (1996064986 : Int), (2554220882 : Int), (2821834349 : Int), (2952996808 : Int), (3210313671 : Int), (3336571891 : Int), (3584528711 : Int), (113926993 : Int), (338241895 : Int), (666307205 : Int), (773529912 : Int), (1294757372 : Int), (1396182291 : Int), (1695183700 : Int), (1986661051 : Int), (2177026350 : Int), (2456956037 : Int), (2730485921 : Int), (2820302411 : Int), (3259730800 : Int), (3345764771 : Int), (3516065817 : Int), (3600352804 : Int), (4094571909 : Int), (275423344 : Int), (430227734 : Int), (506948616 : Int), (659060556 : Int), (883997877 : Int), (958139571 : Int), (1322822218 : Int), (1537002063 : Int), (1747873779 : Int), (1955562222 : Int), (2024104815 : Int), (2227730452 : Int), (2361852424 : Int), (2428436474 : Int), (2756734187 : Int), (3204031479 : Int), (3329325298 : Int)]
noncomputable def spec_l05K  : Option (List Int) := E_spec_l05K  
theorem e_spec_l05K  : EntryIs0 ctx PP 188 [] [] cv20 cv21 (fun _ => E_spec_l05K  ) := fun a => by kernel_rfl
theorem ok_spec_l05K : Tells ctx PP 188 cv20 cv21 (fun _ => spec_l05K ) := fn_ok0 hl_nil Tryz.func188 (e_spec_l05K )
noncomputable def H_spec_l05K {γ : Type} (F : Option (List Int)) : Hd ctx γ := hdl cv20.dec (fun _ => F ) cv21.enc
theorem h_spec_l05K {γ : Type} : HdOk (γ := γ) PP 188 (H_spec_l05K spec_l05K) := hd_ok ok_spec_l05K
noncomputable def E_spec_l05Right  (x_0 : Int) (low_1 : Int) (high_2 : Int) : Option Int :=
  bif (!(low_1 == 0)) then
  bif (!(low_1 == 0)) then
  some (w32 ((w32 (x_0.tdiv low_1)) + (w32 ((x_0.tmod low_1) * high_2))))
  else none
  else none
noncomputable def spec_l05Right (x_0 : Int) (low_1 : Int) (high_2 : Int) : Option Int := E_spec_l05Right  x_0 low_1 high_2
theorem e_spec_l05Right  : EntryIs0 ctx PP 213 [] [] cv24 cv18 (fun a => E_spec_l05Right  a.1 a.2.1 a.2.2) := fun a => by kernel_rfl
theorem ok_spec_l05Right : Tells ctx PP 213 cv24 cv18 (fun a => spec_l05Right a.1 a.2.1 a.2.2) := fn_ok0 hl_nil Tryz.func213 (e_spec_l05Right )
noncomputable def H_spec_l05Right {γ : Type} (F : Int → Int → Int → Option Int) : Hd ctx γ := hdl cv24.dec (fun a => F a.1 a.2.1 a.2.2) cv18.enc
theorem h_spec_l05Right {γ : Type} : HdOk (γ := γ) PP 213 (H_spec_l05Right spec_l05Right) := hd_ok ok_spec_l05Right
noncomputable def E_spec_l05S (spec_l05Right : Int → Int → Int → Option Int) (x_0 : Int) (a_1 : Int) (b_2 : Int) (c_3 : Int) (last_4 : Bool) : Option Int :=
  bif (!(a_1 == 0)) then
  (spec_l05Right x_0 a_1 (w32 ((w32 ((2147483648 : Int).tdiv a_1)) * 2))).bind fun r0 =>
  bif (!(b_2 == 0)) then
  (spec_l05Right x_0 b_2 (w32 ((w32 ((2147483648 : Int).tdiv b_2)) * 2))).bind fun r1 =>
  bif (!(c_3 == 0)) then
  bif (!last_4) then
    bif (!(c_3 == 0)) then
    (spec_l05Right x_0 c_3 (w32 ((w32 ((2147483648 : Int).tdiv c_3)) * 2))).bind fun r2 =>
    some (w32 (((BitVec.toNat ((BitVec.ofInt (IntKind.bits IntKind.u32) (w32 (((BitVec.toNat ((BitVec.ofInt (IntKind.bits IntKind.u32) r0) ^^^ (BitVec.ofInt (IntKind.bits IntKind.u32) r1))) : Nat) : Int))) ^^^ (BitVec.ofInt (IntKind.bits IntKind.u32) r2))) : Nat) : Int))
    else none
  else
    some (w32 (((BitVec.toNat ((BitVec.ofInt (IntKind.bits IntKind.u32) (w32 (((BitVec.toNat ((BitVec.ofInt (IntKind.bits IntKind.u32) r0) ^^^ (BitVec.ofInt (IntKind.bits IntKind.u32) r1))) : Nat) : Int))) ^^^ (BitVec.ofInt (IntKind.bits IntKind.u32) (w32 (x_0.tdiv c_3))))) : Nat) : Int))
  else none
  else none
  else none
noncomputable def spec_l05S (x_0 : Int) (a_1 : Int) (b_2 : Int) (c_3 : Int) (last_4 : Bool) : Option Int := E_spec_l05S spec_l05Right x_0 a_1 b_2 c_3 last_4
theorem e_spec_l05S (spec_l05Right : Int → Int → Int → Option Int) : EntryIs0 ctx PP 206 [] [(213, H_spec_l05Right spec_l05Right)] cv25 cv18 (fun a => E_spec_l05S spec_l05Right a.1 a.2.1 a.2.2.1 a.2.2.2.1 a.2.2.2.2) := fun a => by kernel_rfl
theorem ok_spec_l05S : Tells ctx PP 206 cv25 cv18 (fun a => spec_l05S a.1 a.2.1 a.2.2.1 a.2.2.2.1 a.2.2.2.2) := fn_ok0 (hl_cons h_spec_l05Right hl_nil) Tryz.func206 (e_spec_l05S spec_l05Right)
noncomputable def H_spec_l05S {γ : Type} (F : Int → Int → Int → Int → Bool → Option Int) : Hd ctx γ := hdl cv25.dec (fun a => F a.1 a.2.1 a.2.2.1 a.2.2.2.1 a.2.2.2.2) cv18.enc
theorem h_spec_l05S {γ : Type} : HdOk (γ := γ) PP 206 (H_spec_l05S spec_l05S) := hd_ok ok_spec_l05S
noncomputable def todo_spec_l05Round_0 : List Go.Item := [.code (cAt (bodyOf Tryz.f189) [1, 1, 0, 1, 0, 0, 0, 0]), .code (cAt (bodyOf Tryz.f189) [1, 1, 0, 1, 0, 0, 0, 1]), .code (cAt (bodyOf Tryz.f189) [1, 1, 0, 1, 0, 0, 1]), .inLoop (cAt (bodyOf Tryz.f189) [1, 1, 0, 1, 0, 0]), .inBlock 0, .code (cAt (bodyOf Tryz.f189) [1, 1, 1])]
noncomputable def todo_spec_l05Round_1 : List Go.Item := [.code (cAt (bodyOf Tryz.f189) [1, 1, 1, 1, 0, 1, 0, 0, 0, 0]), .code (cAt (bodyOf Tryz.f189) [1, 1, 1, 1, 0, 1, 0, 0, 0, 1]), .code (cAt (bodyOf Tryz.f189) [1, 1, 1, 1, 0, 1, 0, 0, 1]), .inLoop (cAt (bodyOf Tryz.f189) [1, 1, 1, 1, 0, 1, 0, 0]), .inBlock 2, .code (cAt (bodyOf Tryz.f189) [1, 1, 1, 1, 1])]
noncomputable def todo_spec_l05Round_2 : List Go.Item := [.code (cAt (bodyOf Tryz.f189) [1, 1, 1, 1, 0, 1, 0, 0, 1, 0, 0, 1, 1, 1, 1, 1, 0, 1, 0, 0, 0, 0]), .code (cAt (bodyOf Tryz.f189) [1, 1, 1, 1, 0, 1, 0, 0, 1, 0, 0, 1, 1, 1, 1, 1, 0, 1, 0, 0, 0, 1]), .code (cAt (bodyOf Tryz.f189) [1, 1, 1, 1, 0, 1, 0, 0, 1, 0, 0, 1, 1, 1, 1, 1, 0, 1, 0, 0, 1]), .inLoop (cAt (bodyOf Tryz.f189) [1, 1, 1, 1, 0, 1, 0, 0, 1, 0, 0, 1, 1, 1, 1, 1, 0, 1, 0, 0]), .inBlock 4, .code (cAt (bodyOf Tryz.f189) [1, 1, 1, 1, 0, 1, 0, 0, 1, 0, 0, 1, 1, 1, 1, 1, 1]), .inBlock 3, .code (cAt (bodyOf Tryz.f189) [1, 1, 1, 1, 0, 1, 0, 0, 1, 1]), .inLoop (cAt (bodyOf Tryz.f189) [1, 1, 1, 1, 0, 1, 0, 0]), .inBlock 2, .code (cAt (bodyOf Tryz.f189) [1, 1, 1, 1, 1])]
noncomputable def todo_spec_l05Round_3 : List Go.Item := [.code (cAt (bodyOf Tryz.f189) [1, 1, 1, 1, 1, 1, 0, 1, 0, 0, 0, 0]), .code (cAt (bodyOf Tryz.f189) [1, 1, 1, 1, 1, 1, 0, 1, 0, 0, 0, 1]), .code (cAt (bodyOf Tryz.f189) [1, 1, 1, 1, 1, 1, 0, 1, 0, 0, 1]), .inLoop (cAt (bodyOf Tryz.f189) [1, 1, 1, 1, 1, 1, 0, 1, 0, 0]), .inBlock 6, .code (cAt (bodyOf Tryz.f189) [1, 1, 1, 1, 1, 1, 1])]
inductive St_spec_l05Round where
  | c0 (t_0 : (List Int)) (o_1 : (List Int)) (v_8 : Int) (v_7 : (List Int))
  | c1 (t_0 : (List Int)) (o_1 : (List Int)) (v_10 : Int) (v_7 : (List Int)) (v_9 : (List Int))
  | c2 (t_0 : (List Int)) (o_1 : (List Int)) (v_10 : Int) (v_13 : Int) (v_15 : Int) (v_16 : Int) (v_7 : (List Int)) (v_9 : (List Int))
  | c3 (t_0 : (List Int)) (v_18 : Int) (v_9 : (List Int)) (v_17 : (List Int))
noncomputable def at_spec_l05Round : St_spec_l05Round → LI
  | .c0 t_0 o_1 v_8 v_7 => (todo_spec_l05Round_0, [(0, [.one (.rsl 192 t_0)]), (1, [.one (.rsl 192 o_1)]), (7, [.one (.own 496)]), (8, [.one (.int .i64 v_8)])], [(496, .sl 192 v_7)])
  | .c1 t_0 o_1 v_10 v_7 v_9 => (todo_spec_l05Round_1, [(0, [.one (.rsl 192 t_0)]), (1, [.one (.rsl 192 o_1)]), (7, [.one (.own 496)]), (9, [.one (.own 624)]), (10, [.one (.int .i64 v_10)])], [(496, .sl 192 v_7), (624, .sl 192 v_9)])
  | .c2 t_0 o_1 v_10 v_13 v_15 v_16 v_7 v_9 => (todo_spec_l05Round_2, [(0, [.one (.rsl 192 t_0)]), (1, [.one (.rsl 192 o_1)]), (7, [.one (.own 496)]), (9, [.one (.own 624)]), (10, [.one (.int .i64 v_10)]), (13, [.one (.int .u32 v_13)]), (15, [.one (.int .u32 v_15)]), (16, [.one (.int .i64 v_16)])], [(496, .sl 192 v_7), (624, .sl 192 v_9)])
  | .c3 t_0 v_18 v_9 v_17 => (todo_spec_l05Round_3, [(0, [.one (.rsl 192 t_0)]), (9, [.one (.own 624)]), (17, [.one (.own 1136)]), (18, [.one (.int .i64 v_18)])], [(624, .sl 192 v_9), (1136, .sl 192 v_17)])
noncomputable def E_spec_l05Round (spec_l05Words : ByteArray → Option (List Int)) (spec_l05S : Int → Int → Int → Int → Bool → Option Int) (k : St_spec_l05Round → Option (List Int)) (t_0 : (List Int)) (o_1 : (List Int)) (A_2 : ByteArray) : Option (List Int) :=
  (spec_l05Words A_2).bind fun r0 =>
  k (.c0 t_0 o_1 (16 : Int) r0)
noncomputable def B_spec_l05Round (spec_l05Words : ByteArray → Option (List Int)) (spec_l05S : Int → Int → Int → Int → Bool → Option Int) (k : St_spec_l05Round → Option (List Int)) : St_spec_l05Round → Option (List Int)
  | .c0 t_0 o_1 v_8 v_7 =>
    bif (decide (v_8 < 64)) then
      bif ((decide (0 ≤ (w64 (v_8 - 2)))) && (decide ((w64 (v_8 - 2)) < (v_7.length : Int)))) then
      (spec_l05S (v_7.getD (w64 (v_8 - 2)).toNat 0) (131072 : Int) (524288 : Int) (1024 : Int) true).bind fun r0 =>
      bif ((decide (0 ≤ (w64 (v_8 - 7)))) && (decide ((w64 (v_8 - 7)) < (v_7.length : Int)))) then
      bif ((decide (0 ≤ (w64 (v_8 - 15)))) && (decide ((w64 (v_8 - 15)) < (v_7.length : Int)))) then
      (spec_l05S (v_7.getD (w64 (v_8 - 15)).toNat 0) (128 : Int) (262144 : Int) (8 : Int) true).bind fun r1 =>
      bif ((decide (0 ≤ (w64 (v_8 - 16)))) && (decide ((w64 (v_8 - 16)) < (v_7.length : Int)))) then
      bif (decide (((v_7.length + 1) * 4) ≤ 140737488355328)) then
      k (.c0 t_0 o_1 (w64 (v_8 + 1)) (v_7 ++ [(w32 ((w32 ((w32 (r0 + (v_7.getD (w64 (v_8 - 7)).toNat 0))) + r1)) + (v_7.getD (w64 (v_8 - 16)).toNat 0)))]))
      else none
      else none
      else none
      else none
      else none
    else
      bif (decide (((0 + t_0.length) * 4) ≤ 140737488355328)) then
      k (.c1 t_0 o_1 (0 : Int) v_7 ([] ++ t_0))
      else none
  | .c1 t_0 o_1 v_10 v_7 v_9 =>
    bif (decide (v_10 < 64)) then
      bif ((decide ((0 : Int) ≤ (4 : Int))) && (decide (4 < (v_9.length : Int)))) then
      bif ((decide ((0 : Int) ≤ (5 : Int))) && (decide (5 < (v_9.length : Int)))) then
      bif ((decide ((0 : Int) ≤ (6 : Int))) && (decide (6 < (v_9.length : Int)))) then
      bif ((decide ((0 : Int) ≤ (7 : Int))) && (decide (7 < (v_9.length : Int)))) then
      (spec_l05S (v_9.getD (4 : Int).toNat 0) (64 : Int) (2048 : Int) (33554432 : Int) false).bind fun r0 =>
      bif ((decide (0 ≤ v_10)) && (decide (v_10 < (o_1.length : Int)))) then
      bif ((decide (0 ≤ v_10)) && (decide (v_10 < (v_7.length : Int)))) then
      bif ((decide ((0 : Int) ≤ (0 : Int))) && (decide (0 < (v_9.length : Int)))) then
      bif ((decide ((0 : Int) ≤ (1 : Int))) && (decide (1 < (v_9.length : Int)))) then
      bif ((decide ((0 : Int) ≤ (0 : Int))) && (decide (0 < (v_9.length : Int)))) then
      bif ((decide ((0 : Int) ≤ (2 : Int))) && (decide (2 < (v_9.length : Int)))) then
      bif ((decide ((0 : Int) ≤ (1 : Int))) && (decide (1 < (v_9.length : Int)))) then
      bif ((decide ((0 : Int) ≤ (2 : Int))) && (decide (2 < (v_9.length : Int)))) then
      bif ((decide ((0 : Int) ≤ (0 : Int))) && (decide (0 < (v_9.length : Int)))) then
      (spec_l05S (v_9.getD (0 : Int).toNat 0) (4 : Int) (8192 : Int) (4194304 : Int) false).bind fun r1 =>
      k (.c2 t_0 o_1 v_10 (w32 ((w32 ((w32 ((w32 ((v_9.getD (7 : Int).toNat 0) + r0)) + (w32 (((BitVec.toNat ((BitVec.ofInt (IntKind.bits IntKind.u32) (w32 (((BitVec.toNat ((BitVec.ofInt (IntKind.bits IntKind.u32) (v_9.getD (4 : Int).toNat 0)) &&& (BitVec.ofInt (IntKind.bits IntKind.u32) (v_9.getD (5 : Int).toNat 0)))) : Nat) : Int))) ^^^ (BitVec.ofInt (IntKind.bits IntKind.u32) (w32 (((BitVec.toNat ((BitVec.ofInt (IntKind.bits IntKind.u32) (w32 (4294967295 - (v_9.getD (4 : Int).toNat 0)))) &&& (BitVec.ofInt (IntKind.bits IntKind.u32) (v_9.getD (6 : Int).toNat 0)))) : Nat) : Int))))) : Nat) : Int)))) + (o_1.getD v_10.toNat 0))) + (v_7.getD v_10.toNat 0))) (w32 (r1 + (w32 (((BitVec.toNat ((BitVec.ofInt (IntKind.bits IntKind.u32) (w32 (((BitVec.toNat ((BitVec.ofInt (IntKind.bits IntKind.u32) (w32 (((BitVec.toNat ((BitVec.ofInt (IntKind.bits IntKind.u32) (v_9.getD (0 : Int).toNat 0)) &&& (BitVec.ofInt (IntKind.bits IntKind.u32) (v_9.getD (1 : Int).toNat 0)))) : Nat) : Int))) ^^^ (BitVec.ofInt (IntKind.bits IntKind.u32) (w32 (((BitVec.toNat ((BitVec.ofInt (IntKind.bits IntKind.u32) (v_9.getD (0 : Int).toNat 0)) &&& (BitVec.ofInt (IntKind.bits IntKind.u32) (v_9.getD (2 : Int).toNat 0)))) : Nat) : Int))))) : Nat) : Int))) ^^^ (BitVec.ofInt (IntKind.bits IntKind.u32) (w32 (((BitVec.toNat ((BitVec.ofInt (IntKind.bits IntKind.u32) (v_9.getD (1 : Int).toNat 0)) &&& (BitVec.ofInt (IntKind.bits IntKind.u32) (v_9.getD (2 : Int).toNat 0)))) : Nat) : Int))))) : Nat) : Int)))) (7 : Int) v_7 v_9)
      else none
      else none
      else none
      else none
      else none
      else none
      else none
      else none
      else none
      else none
      else none
      else none
      else none
    else
      k (.c3 t_0 (0 : Int) v_9 [])
  | .c2 t_0 o_1 v_10 v_13 v_15 v_16 v_7 v_9 =>
    bif (decide (v_16 > 0)) then
      bif ((decide (0 ≤ (w64 (v_16 - 1)))) && (decide ((w64 (v_16 - 1)) < (v_9.length : Int)))) then
      bif ((decide (0 ≤ v_16)) && (decide (v_16 < (v_9.length : Int)))) then
      k (.c2 t_0 o_1 v_10 v_13 v_15 (w64 (v_16 - 1)) v_7 (v_9.set v_16.toNat (v_9.getD (w64 (v_16 - 1)).toNat 0)))
      else none
      else none
    else
      bif ((decide ((0 : Int) ≤ (4 : Int))) && (decide (4 < (v_9.length : Int)))) then
      bif ((decide ((0 : Int) ≤ (4 : Int))) && (decide (4 < (v_9.length : Int)))) then
      bif ((decide ((0 : Int) ≤ (0 : Int))) && (decide (0 < ((v_9.set (4 : Int).toNat (w32 ((v_9.getD (4 : Int).toNat 0) + v_13))).length : Int)))) then
      k (.c1 t_0 o_1 (w64 (v_10 + 1)) v_7 ((v_9.set (4 : Int).toNat (w32 ((v_9.getD (4 : Int).toNat 0) + v_13))).set (0 : Int).toNat (w32 (v_13 + v_15))))
      else none
      else none
      else none
  | .c3 t_0 v_18 v_9 v_17 =>
    bif (decide (v_18 < 8)) then
      bif ((decide (0 ≤ v_18)) && (decide (v_18 < (t_0.length : Int)))) then
      bif ((decide (0 ≤ v_18)) && (decide (v_18 < (v_9.length : Int)))) then
      bif (decide (((v_17.length + 1) * 4) ≤ 140737488355328)) then
      k (.c3 t_0 (w64 (v_18 + 1)) v_9 (v_17 ++ [(w32 ((t_0.getD v_18.toNat 0) + (v_9.getD v_18.toNat 0)))]))
      else none
      else none
      else none
    else
      some v_17
noncomputable def L_spec_l05Round : Nat → St_spec_l05Round → Option (List Int)
  | 0, _ => none
  | m + 1, s => B_spec_l05Round spec_l05Words spec_l05S (L_spec_l05Round m) s
noncomputable def spec_l05Round (t_0 : (List Int)) (o_1 : (List Int)) (A_2 : ByteArray) : Option (List Int) := E_spec_l05Round spec_l05Words spec_l05S (L_spec_l05Round gas) t_0 o_1 A_2
theorem e_spec_l05Round (spec_l05Words : ByteArray → Option (List Int)) (spec_l05S : Int → Int → Int → Int → Bool → Option Int) : EntryIs ctx PP 189 [] [(187, H_spec_l05Words spec_l05Words), (206, H_spec_l05S spec_l05S)] cv26 cv21 at_spec_l05Round (fun k a => E_spec_l05Round spec_l05Words spec_l05S k a.1 a.2.1 a.2.2) := fun stop a => by kernel_rfl
theorem b_spec_l05Round (spec_l05Words : ByteArray → Option (List Int)) (spec_l05S : Int → Int → Int → Int → Bool → Option Int) : CutIs ctx PP 189 Tryz.f189 [] [(187, H_spec_l05Words spec_l05Words), (206, H_spec_l05S spec_l05S)] cv21 at_spec_l05Round (B_spec_l05Round spec_l05Words spec_l05S) := fun stop s => by cases s <;> kernel_rfl
theorem i_spec_l05Round : ∀ s s', at_spec_l05Round s = at_spec_l05Round s' → s = s' := by
  intro s s' h
  cases s with
  | c0 v0 v1 v2 v3 => cases s' with
    | c0 w0 w1 w2 w3 => cases h; rfl
    | c1 w0 w1 w2 w3 w4 => exact (region_ne 3 8 h (by kernel_rfl) (by kernel_rfl) rfl).elim
    | c2 w0 w1 w2 w3 w4 w5 w6 w7 => exact (region_ne 3 16 h (by kernel_rfl) (by kernel_rfl) rfl).elim
    | c3 w0 w1 w2 w3 => exact (region_ne 3 23 h (by kernel_rfl) (by kernel_rfl) rfl).elim
  | c1 v0 v1 v2 v3 v4 => cases s' with
    | c0 w0 w1 w2 w3 => exact (region_ne 8 3 h (by kernel_rfl) (by kernel_rfl) rfl).elim
    | c1 w0 w1 w2 w3 w4 => cases h; rfl
    | c2 w0 w1 w2 w3 w4 w5 w6 w7 => exact (region_ne 8 16 h (by kernel_rfl) (by kernel_rfl) rfl).elim
    | c3 w0 w1 w2 w3 => exact (region_ne 8 23 h (by kernel_rfl) (by kernel_rfl) rfl).elim
  | c2 v0 v1 v2 v3 v4 v5 v6 v7 => cases s' with
    | c0 w0 w1 w2 w3 => exact (region_ne 16 3 h (by kernel_rfl) (by kernel_rfl) rfl).elim
    | c1 w0 w1 w2 w3 w4 => exact (region_ne 16 8 h (by kernel_rfl) (by kernel_rfl) rfl).elim
    | c2 w0 w1 w2 w3 w4 w5 w6 w7 => cases h; rfl
    | c3 w0 w1 w2 w3 => exact (region_ne 16 23 h (by kernel_rfl) (by kernel_rfl) rfl).elim
  | c3 v0 v1 v2 v3 => cases s' with
    | c0 w0 w1 w2 w3 => exact (region_ne 23 3 h (by kernel_rfl) (by kernel_rfl) rfl).elim
    | c1 w0 w1 w2 w3 w4 => exact (region_ne 23 8 h (by kernel_rfl) (by kernel_rfl) rfl).elim
    | c2 w0 w1 w2 w3 w4 w5 w6 w7 => exact (region_ne 23 16 h (by kernel_rfl) (by kernel_rfl) rfl).elim
    | c3 w0 w1 w2 w3 => cases h; rfl
theorem ok_spec_l05Round : Tells ctx PP 189 cv26 cv21 (fun a => spec_l05Round a.1 a.2.1 a.2.2) := fn_ok (hl_cons h_spec_l05Words (hl_cons h_spec_l05S hl_nil)) Tryz.func189 i_spec_l05Round (fun _ => rfl) (fun _ _ => rfl) (b_spec_l05Round spec_l05Words spec_l05S) (e_spec_l05Round spec_l05Words spec_l05S) gas
noncomputable def H_spec_l05Round {γ : Type} (F : (List Int) → (List Int) → ByteArray → Option (List Int)) : Hd ctx γ := hdl cv26.dec (fun a => F a.1 a.2.1 a.2.2) cv21.enc
theorem h_spec_l05Round {γ : Type} : HdOk (γ := γ) PP 189 (H_spec_l05Round spec_l05Round) := hd_ok ok_spec_l05Round
noncomputable def todo_spec_HashMore_0 : List Go.Item := [.code (cAt (bodyOf Tryz.f158) [1, 1, 1, 1, 1, 1, 0, 0, 0, 0, 0]), .code (cAt (bodyOf Tryz.f158) [1, 1, 1, 1, 1, 1, 0, 0, 0, 0, 1]), .code (cAt (bodyOf Tryz.f158) [1, 1, 1, 1, 1, 1, 0, 0, 0, 1]), .inLoop (cAt (bodyOf Tryz.f158) [1, 1, 1, 1, 1, 1, 0, 0, 0]), .inBlock 0, .code (cAt (bodyOf Tryz.f158) [1, 1, 1, 1, 1, 1, 1])]
inductive St_spec_HashMore where
  | c0 (s_1 : ByteArray) (buf_7 : ByteArray) (at_8 : Int) (h_2 : SHasher) (v_4 : SHasher) (state_5 : (List Int)) (k_6 : (List Int))
noncomputable def at_spec_HashMore : St_spec_HashMore → LI
  | .c0 s_1 buf_7 at_8 h_2 v_4 state_5 k_6 => (todo_spec_HashMore_0, [(1, [.one (.str s_1)]), (2, [.one (.ptr 128 0)]), (4, [.one (.ptr 256 0)]), (5, [.one (.own 368)]), (6, [.one (.own 432)]), (7, [.one (.str buf_7)]), (8, [.one (.int .i64 at_8)])], [(128, .var [.str h_2.fState, .str h_2.fRest, .int .i64 h_2.fCount]), (256, .var [.str v_4.fState, .str v_4.fRest, .int .i64 v_4.fCount]), (368, .sl 192 state_5), (432, .sl 192 k_6)])
noncomputable def E_spec_HashMore (spec_HasherOk : SHasher → Option Bool) (spec_l05Words : ByteArray → Option (List Int)) (spec_l05K : Option (List Int)) (spec_l05Round : (List Int) → (List Int) → ByteArray → Option (List Int)) (spec_l05Bytes : (List Int) → Option ByteArray) (k : St_spec_HashMore → Option SHasher) (h_0 : SHasher) (s_1 : ByteArray) : Option SHasher :=
  (spec_HasherOk h_0).bind fun r0 =>
  bif (!r0) then
    some h_0
  else
    bif (decide ((w64 (h_0.fCount + (s_1.size : Int))) > 1000000000)) then
      some h_0
    else
      (spec_l05Words h_0.fState).bind fun r1 =>
      spec_l05K.bind fun r2 =>
      bif (decide ((h_0.fRest.size + s_1.size) ≤ 9223372036854775807)) then
      k (.c0 s_1 (h_0.fRest ++ s_1) (0 : Int) h_0 (⟨(⟨#[]⟩ : ByteArray), (⟨#[]⟩ : ByteArray), (0 : Int)⟩ : SHasher) r1 r2)
      else none
noncomputable def B_spec_HashMore (spec_HasherOk : SHasher → Option Bool) (spec_l05Words : ByteArray → Option (List Int)) (spec_l05K : Option (List Int)) (spec_l05Round : (List Int) → (List Int) → ByteArray → Option (List Int)) (spec_l05Bytes : (List Int) → Option ByteArray) (k : St_spec_HashMore → Option SHasher) : St_spec_HashMore → Option SHasher
  | .c0 s_1 buf_7 at_8 h_2 v_4 state_5 k_6 =>
    bif (decide ((w64 (at_8 + 64)) ≤ (buf_7.size : Int))) then
      bif (((decide (0 ≤ at_8)) && (decide (at_8 ≤ (w64 (at_8 + 64))))) && (decide ((w64 (at_8 + 64)) ≤ (buf_7.size : Int)))) then
      (spec_l05Round state_5 k_6 (buf_7.extract at_8.toNat (w64 (at_8 + 64)).toNat)).bind fun r0 =>
      k (.c0 s_1 buf_7 (w64 (at_8 + 64)) h_2 v_4 r0 k_6)
      else none
    else
      (spec_l05Bytes state_5).bind fun r1 =>
      bif ((decide (0 ≤ at_8)) && (decide (at_8 ≤ (buf_7.size : Int)))) then
      some (⟨r1, (buf_7.extract at_8.toNat buf_7.size), (w64 (h_2.fCount + (s_1.size : Int)))⟩ : SHasher)
      else none
noncomputable def L_spec_HashMore : Nat → St_spec_HashMore → Option SHasher
  | 0, _ => none
  | m + 1, s => B_spec_HashMore spec_HasherOk spec_l05Words spec_l05K spec_l05Round spec_l05Bytes (L_spec_HashMore m) s
noncomputable def spec_HashMore (h_0 : SHasher) (s_1 : ByteArray) : Option SHasher := E_spec_HashMore spec_HasherOk spec_l05Words spec_l05K spec_l05Round spec_l05Bytes (L_spec_HashMore gas) h_0 s_1
theorem e_spec_HashMore (spec_HasherOk : SHasher → Option Bool) (spec_l05Words : ByteArray → Option (List Int)) (spec_l05K : Option (List Int)) (spec_l05Round : (List Int) → (List Int) → ByteArray → Option (List Int)) (spec_l05Bytes : (List Int) → Option ByteArray) : EntryIs ctx PP 158 [] [(186, H_spec_HasherOk spec_HasherOk), (187, H_spec_l05Words spec_l05Words), (188, H_spec_l05K spec_l05K), (189, H_spec_l05Round spec_l05Round), (190, H_spec_l05Bytes spec_l05Bytes)] cv27 cv23 at_spec_HashMore (fun k a => E_spec_HashMore spec_HasherOk spec_l05Words spec_l05K spec_l05Round spec_l05Bytes k a.1 a.2) := fun stop a => by kernel_rfl
theorem b_spec_HashMore (spec_HasherOk : SHasher → Option Bool) (spec_l05Words : ByteArray → Option (List Int)) (spec_l05K : Option (List Int)) (spec_l05Round : (List Int) → (List Int) → ByteArray → Option (List Int)) (spec_l05Bytes : (List Int) → Option ByteArray) : CutIs ctx PP 158 Tryz.f158 [] [(186, H_spec_HasherOk spec_HasherOk), (187, H_spec_l05Words spec_l05Words), (188, H_spec_l05K spec_l05K), (189, H_spec_l05Round spec_l05Round), (190, H_spec_l05Bytes spec_l05Bytes)] cv23 at_spec_HashMore (B_spec_HashMore spec_HasherOk spec_l05Words spec_l05K spec_l05Round spec_l05Bytes) := fun stop s => by cases s <;> kernel_rfl
theorem i_spec_HashMore : ∀ s s', at_spec_HashMore s = at_spec_HashMore s' → s = s' := by
  intro s s' h
  cases s with
  | c0 v0 v1 v2 v3 v4 v5 v6 => cases s' with
    | c0 w0 w1 w2 w3 w4 w5 w6 => obtain ⟨_, _, _⟩ := v3; obtain ⟨_, _, _⟩ := w3; obtain ⟨_, _, _⟩ := v4; obtain ⟨_, _, _⟩ := w4; cases h; rfl
theorem ok_spec_HashMore : Tells ctx PP 158 cv27 cv23 (fun a => spec_HashMore a.1 a.2) := fn_ok (hl_cons h_spec_HasherOk (hl_cons h_spec_l05Words (hl_cons h_spec_l05K (hl_cons h_spec_l05Round (hl_cons h_spec_l05Bytes hl_nil))))) Tryz.func158 i_spec_HashMore (fun _ => rfl) (fun _ _ => rfl) (b_spec_HashMore spec_HasherOk spec_l05Words spec_l05K spec_l05Round spec_l05Bytes) (e_spec_HashMore spec_HasherOk spec_l05Words spec_l05K spec_l05Round spec_l05Bytes) gas
noncomputable def H_spec_HashMore {γ : Type} (F : SHasher → ByteArray → Option SHasher) : Hd ctx γ := hdl cv27.dec (fun a => F a.1 a.2) cv23.enc
theorem h_spec_HashMore {γ : Type} : HdOk (γ := γ) PP 158 (H_spec_HashMore spec_HashMore) := hd_ok ok_spec_HashMore
noncomputable def todo_spec_HashEnd_0 : List Go.Item := [.code (cAt (bodyOf Tryz.f157) [1, 1, 1, 1, 0, 0, 0, 0, 0]), .code (cAt (bodyOf Tryz.f157) [1, 1, 1, 1, 0, 0, 0, 0, 1]), .code (cAt (bodyOf Tryz.f157) [1, 1, 1, 1, 0, 0, 0, 1]), .inLoop (cAt (bodyOf Tryz.f157) [1, 1, 1, 1, 0, 0, 0]), .inBlock 0, .code (cAt (bodyOf Tryz.f157) [1, 1, 1, 1, 1])]
noncomputable def todo_spec_HashEnd_1 : List Go.Item := [.code (cAt (bodyOf Tryz.f157) [1, 1, 1, 1, 1, 1, 0, 1, 0, 0, 0, 0]), .code (cAt (bodyOf Tryz.f157) [1, 1, 1, 1, 1, 1, 0, 1, 0, 0, 0, 1]), .code (cAt (bodyOf Tryz.f157) [1, 1, 1, 1, 1, 1, 0, 1, 0, 0, 1]), .inLoop (cAt (bodyOf Tryz.f157) [1, 1, 1, 1, 1, 1, 0, 1, 0, 0]), .inBlock 2, .code (cAt (bodyOf Tryz.f157) [1, 1, 1, 1, 1, 1, 1])]
noncomputable def todo_spec_HashEnd_2 : List Go.Item := [.code (cAt (bodyOf Tryz.f157) [1, 1, 1, 1, 1, 1, 0, 1, 0, 0, 1, 0, 0, 1, 0, 1, 0, 0, 0, 0]), .code (cAt (bodyOf Tryz.f157) [1, 1, 1, 1, 1, 1, 0, 1, 0, 0, 1, 0, 0, 1, 0, 1, 0, 0, 0, 1]), .code (cAt (bodyOf Tryz.f157) [1, 1, 1, 1, 1, 1, 0, 1, 0, 0, 1, 0, 0, 1, 0, 1, 0, 0, 1]), .inLoop (cAt (bodyOf Tryz.f157) [1, 1, 1, 1, 1, 1, 0, 1, 0, 0, 1, 0, 0, 1, 0, 1, 0, 0]), .inBlock 4, .code (cAt (bodyOf Tryz.f157) [1, 1, 1, 1, 1, 1, 0, 1, 0, 0, 1, 0, 0, 1, 1]), .inBlock 3, .code (cAt (bodyOf Tryz.f157) [1, 1, 1, 1, 1, 1, 0, 1, 0, 0, 1, 1]), .inLoop (cAt (bodyOf Tryz.f157) [1, 1, 1, 1, 1, 1, 0, 1, 0, 0]), .inBlock 2, .code (cAt (bodyOf Tryz.f157) [1, 1, 1, 1, 1, 1, 1])]
noncomputable def todo_spec_HashEnd_3 : List Go.Item := [.code (cAt (bodyOf Tryz.f157) [1, 1, 1, 1, 1, 1, 1, 1, 1, 0, 1, 0, 0, 0, 0]), .code (cAt (bodyOf Tryz.f157) [1, 1, 1, 1, 1, 1, 1, 1, 1, 0, 1, 0, 0, 0, 1]), .code (cAt (bodyOf Tryz.f157) [1, 1, 1, 1, 1, 1, 1, 1, 1, 0, 1, 0, 0, 1]), .inLoop (cAt (bodyOf Tryz.f157) [1, 1, 1, 1, 1, 1, 1, 1, 1, 0, 1, 0, 0]), .inBlock 6, .code (cAt (bodyOf Tryz.f157) [1, 1, 1, 1, 1, 1, 1, 1, 1, 1])]
inductive St_spec_HashEnd where
  | c0 (h_1 : SHasher) (tail_3 : (List Int))
  | c1 (bits_4 : Int) (i_5 : Int) (h_1 : SHasher) (tail_3 : (List Int))
  | c2 (bits_4 : Int) (i_5 : Int) (x_6 : Int) (k_7 : Int) (h_1 : SHasher) (tail_3 : (List Int))
  | c3 (at_10 : Int) (tail_3 : (List Int)) (state_8 : (List Int)) (k_9 : (List Int))
noncomputable def at_spec_HashEnd : St_spec_HashEnd → LI
  | .c0 h_1 tail_3 => (todo_spec_HashEnd_0, [(1, [.one (.ptr 64 0)]), (3, [.one (.own 240)])], [(64, .var [.str h_1.fState, .str h_1.fRest, .int .i64 h_1.fCount]), (240, .sl 5 tail_3)])
  | .c1 bits_4 i_5 h_1 tail_3 => (todo_spec_HashEnd_1, [(1, [.one (.ptr 64 0)]), (3, [.one (.own 240)]), (4, [.one (.int .i64 bits_4)]), (5, [.one (.int .i64 i_5)])], [(64, .var [.str h_1.fState, .str h_1.fRest, .int .i64 h_1.fCount]), (240, .sl 5 tail_3)])
  | .c2 bits_4 i_5 x_6 k_7 h_1 tail_3 => (todo_spec_HashEnd_2, [(1, [.one (.ptr 64 0)]), (3, [.one (.own 240)]), (4, [.one (.int .i64 bits_4)]), (5, [.one (.int .i64 i_5)]), (6, [.one (.int .i64 x_6)]), (7, [.one (.int .i64 k_7)])], [(64, .var [.str h_1.fState, .str h_1.fRest, .int .i64 h_1.fCount]), (240, .sl 5 tail_3)])
  | .c3 at_10 tail_3 state_8 k_9 => (todo_spec_HashEnd_3, [(3, [.one (.own 240)]), (8, [.one (.own 560)]), (9, [.one (.own 624)]), (10, [.one (.int .i64 at_10)])], [(240, .sl 5 tail_3), (560, .sl 192 state_8), (624, .sl 192 k_9)])
noncomputable def E_spec_HashEnd (spec_HasherOk : SHasher → Option Bool) (spec_l05Words : ByteArray → Option (List Int)) (spec_l05K : Option (List Int)) (spec_l05Round : (List Int) → (List Int) → ByteArray → Option (List Int)) (spec_l05Bytes : (List Int) → Option ByteArray) (k : St_spec_HashEnd → Option ByteArray) (h_0 : SHasher) : Option ByteArray :=
  (spec_HasherOk h_0).bind fun r0 =>
  bif (!r0) then
    some (⟨#[]⟩ : ByteArray)
  else
    bif (decide (h_0.fRest.size ≤ 9223372036854775807)) then
    bif (decide ((((bytesOf h_0.fRest).length + 1) * 1) ≤ 140737488355328)) then
    k (.c0 h_0 ((bytesOf h_0.fRest) ++ [(128 : Int)]))
    else none
    else none
noncomputable def B_spec_HashEnd (spec_HasherOk : SHasher → Option Bool) (spec_l05Words : ByteArray → Option (List Int)) (spec_l05K : Option (List Int)) (spec_l05Round : (List Int) → (List Int) → ByteArray → Option (List Int)) (spec_l05Bytes : (List Int) → Option ByteArray) (k : St_spec_HashEnd → Option ByteArray) : St_spec_HashEnd → Option ByteArray
  | .c0 h_1 tail_3 =>
    bif (((tail_3.length : Int).tmod 64) != 56) then
      bif (decide (((tail_3.length + 1) * 1) ≤ 140737488355328)) then
      k (.c0 h_1 (tail_3 ++ [(0 : Int)]))
      else none
    else
      k (.c1 (w64 (8 * h_1.fCount)) (7 : Int) h_1 tail_3)
  | .c1 bits_4 i_5 h_1 tail_3 =>
    bif (decide (i_5 ≥ 0)) then
      k (.c2 bits_4 i_5 bits_4 (0 : Int) h_1 tail_3)
    else
      (spec_l05Words h_1.fState).bind fun r0 =>
      spec_l05K.bind fun r1 =>
      k (.c3 (0 : Int) tail_3 r0 r1)
  | .c2 bits_4 i_5 x_6 k_7 h_1 tail_3 =>
    bif (decide (k_7 < i_5)) then
      k (.c2 bits_4 i_5 (w64 (x_6.tdiv 256)) (w64 (k_7 + 1)) h_1 tail_3)
    else
      bif (decide (((tail_3.length + 1) * 1) ≤ 140737488355328)) then
      k (.c1 bits_4 (w64 (i_5 - 1)) h_1 (tail_3 ++ [(w8 (x_6.tmod 256))]))
      else none
  | .c3 at_10 tail_3 state_8 k_9 =>
    bif (decide (at_10 < (tail_3.length : Int))) then
      bif (((decide (0 ≤ at_10)) && (decide (at_10 ≤ (w64 (at_10 + 64))))) && (decide ((w64 (at_10 + 64)) ≤ (tail_3.length : Int)))) then
      (spec_l05Round state_8 k_9 (ofBytes ((tail_3.drop at_10.toNat).take ((w64 (at_10 + 64)).toNat - at_10.toNat)))).bind fun r0 =>
      k (.c3 (w64 (at_10 + 64)) tail_3 r0 k_9)
      else none
    else
      (spec_l05Bytes state_8).bind fun r1 =>
      some r1
noncomputable def L_spec_HashEnd : Nat → St_spec_HashEnd → Option ByteArray
  | 0, _ => none
  | m + 1, s => B_spec_HashEnd spec_HasherOk spec_l05Words spec_l05K spec_l05Round spec_l05Bytes (L_spec_HashEnd m) s
noncomputable def spec_HashEnd (h_0 : SHasher) : Option ByteArray := E_spec_HashEnd spec_HasherOk spec_l05Words spec_l05K spec_l05Round spec_l05Bytes (L_spec_HashEnd gas) h_0
theorem e_spec_HashEnd (spec_HasherOk : SHasher → Option Bool) (spec_l05Words : ByteArray → Option (List Int)) (spec_l05K : Option (List Int)) (spec_l05Round : (List Int) → (List Int) → ByteArray → Option (List Int)) (spec_l05Bytes : (List Int) → Option ByteArray) : EntryIs ctx PP 157 [] [(186, H_spec_HasherOk spec_HasherOk), (187, H_spec_l05Words spec_l05Words), (188, H_spec_l05K spec_l05K), (189, H_spec_l05Round spec_l05Round), (190, H_spec_l05Bytes spec_l05Bytes)] cv23 cv11 at_spec_HashEnd (fun k a => E_spec_HashEnd spec_HasherOk spec_l05Words spec_l05K spec_l05Round spec_l05Bytes k a) := fun stop a => by kernel_rfl
theorem b_spec_HashEnd (spec_HasherOk : SHasher → Option Bool) (spec_l05Words : ByteArray → Option (List Int)) (spec_l05K : Option (List Int)) (spec_l05Round : (List Int) → (List Int) → ByteArray → Option (List Int)) (spec_l05Bytes : (List Int) → Option ByteArray) : CutIs ctx PP 157 Tryz.f157 [] [(186, H_spec_HasherOk spec_HasherOk), (187, H_spec_l05Words spec_l05Words), (188, H_spec_l05K spec_l05K), (189, H_spec_l05Round spec_l05Round), (190, H_spec_l05Bytes spec_l05Bytes)] cv11 at_spec_HashEnd (B_spec_HashEnd spec_HasherOk spec_l05Words spec_l05K spec_l05Round spec_l05Bytes) := fun stop s => by cases s <;> kernel_rfl
theorem i_spec_HashEnd : ∀ s s', at_spec_HashEnd s = at_spec_HashEnd s' → s = s' := by
  intro s s' h
  cases s with
  | c0 v0 v1 => cases s' with
    | c0 w0 w1 => obtain ⟨_, _, _⟩ := v0; obtain ⟨_, _, _⟩ := w0; cases h; rfl
    | c1 w0 w1 w2 w3 => exact (region_ne 5 9 h (by kernel_rfl) (by kernel_rfl) rfl).elim
    | c2 w0 w1 w2 w3 w4 w5 => exact (region_ne 5 13 h (by kernel_rfl) (by kernel_rfl) rfl).elim
    | c3 w0 w1 w2 w3 => exact (region_ne 5 20 h (by kernel_rfl) (by kernel_rfl) rfl).elim
  | c1 v0 v1 v2 v3 => cases s' with
    | c0 w0 w1 => exact (region_ne 9 5 h (by kernel_rfl) (by kernel_rfl) rfl).elim
    | c1 w0 w1 w2 w3 => obtain ⟨_, _, _⟩ := v2; obtain ⟨_, _, _⟩ := w2; cases h; rfl
    | c2 w0 w1 w2 w3 w4 w5 => exact (region_ne 9 13 h (by kernel_rfl) (by kernel_rfl) rfl).elim
    | c3 w0 w1 w2 w3 => exact (region_ne 9 20 h (by kernel_rfl) (by kernel_rfl) rfl).elim
  | c2 v0 v1 v2 v3 v4 v5 => cases s' with
    | c0 w0 w1 => exact (region_ne 13 5 h (by kernel_rfl) (by kernel_rfl) rfl).elim
    | c1 w0 w1 w2 w3 => exact (region_ne 13 9 h (by kernel_rfl) (by kernel_rfl) rfl).elim
    | c2 w0 w1 w2 w3 w4 w5 => obtain ⟨_, _, _⟩ := v4; obtain ⟨_, _, _⟩ := w4; cases h; rfl
    | c3 w0 w1 w2 w3 => exact (region_ne 13 20 h (by kernel_rfl) (by kernel_rfl) rfl).elim
  | c3 v0 v1 v2 v3 => cases s' with
    | c0 w0 w1 => exact (region_ne 20 5 h (by kernel_rfl) (by kernel_rfl) rfl).elim
    | c1 w0 w1 w2 w3 => exact (region_ne 20 9 h (by kernel_rfl) (by kernel_rfl) rfl).elim
    | c2 w0 w1 w2 w3 w4 w5 => exact (region_ne 20 13 h (by kernel_rfl) (by kernel_rfl) rfl).elim
    | c3 w0 w1 w2 w3 => cases h; rfl
theorem ok_spec_HashEnd : Tells ctx PP 157 cv23 cv11 (fun a => spec_HashEnd a) := fn_ok (hl_cons h_spec_HasherOk (hl_cons h_spec_l05Words (hl_cons h_spec_l05K (hl_cons h_spec_l05Round (hl_cons h_spec_l05Bytes hl_nil))))) Tryz.func157 i_spec_HashEnd (fun _ => rfl) (fun _ _ => rfl) (b_spec_HashEnd spec_HasherOk spec_l05Words spec_l05K spec_l05Round spec_l05Bytes) (e_spec_HashEnd spec_HasherOk spec_l05Words spec_l05K spec_l05Round spec_l05Bytes) gas
noncomputable def H_spec_HashEnd {γ : Type} (F : SHasher → Option ByteArray) : Hd ctx γ := hdl cv23.dec (fun a => F a) cv11.enc
theorem h_spec_HashEnd {γ : Type} : HdOk (γ := γ) PP 157 (H_spec_HashEnd spec_HashEnd) := hd_ok ok_spec_HashEnd
noncomputable def E_spec_DigestOf (spec_HasherNew : Option SHasher) (spec_HashMore : SHasher → ByteArray → Option SHasher) (spec_HashEnd : SHasher → Option ByteArray) (s_0 : ByteArray) : Option ByteArray :=
  spec_HasherNew.bind fun r0 =>
  (spec_HashMore r0 s_0).bind fun r1 =>
  (spec_HashEnd r1).bind fun r2 =>
  some r2
noncomputable def spec_DigestOf (s_0 : ByteArray) : Option ByteArray := E_spec_DigestOf spec_HasherNew spec_HashMore spec_HashEnd s_0
theorem e_spec_DigestOf (spec_HasherNew : Option SHasher) (spec_HashMore : SHasher → ByteArray → Option SHasher) (spec_HashEnd : SHasher → Option ByteArray) : EntryIs0 ctx PP 108 [] [(159, H_spec_HasherNew spec_HasherNew), (158, H_spec_HashMore spec_HashMore), (157, H_spec_HashEnd spec_HashEnd)] cv11 cv11 (fun a => E_spec_DigestOf spec_HasherNew spec_HashMore spec_HashEnd a) := fun a => by kernel_rfl
theorem ok_spec_DigestOf : Tells ctx PP 108 cv11 cv11 (fun a => spec_DigestOf a) := fn_ok0 (hl_cons h_spec_HasherNew (hl_cons h_spec_HashMore (hl_cons h_spec_HashEnd hl_nil))) Tryz.func108 (e_spec_DigestOf spec_HasherNew spec_HashMore spec_HashEnd)
noncomputable def H_spec_DigestOf {γ : Type} (F : ByteArray → Option ByteArray) : Hd ctx γ := hdl cv11.dec (fun a => F a) cv11.enc
theorem h_spec_DigestOf {γ : Type} : HdOk (γ := γ) PP 108 (H_spec_DigestOf spec_DigestOf) := hd_ok ok_spec_DigestOf
noncomputable def todo_spec_l06Mask_0 : List Go.Item := [.code (cAt (bodyOf Tryz.f202) [1, 1, 1, 0, 1, 0, 0, 0, 0]), .code (cAt (bodyOf Tryz.f202) [1, 1, 1, 0, 1, 0, 0, 0, 1]), .code (cAt (bodyOf Tryz.f202) [1, 1, 1, 0, 1, 0, 0, 1]), .inLoop (cAt (bodyOf Tryz.f202) [1, 1, 1, 0, 1, 0, 0]), .inBlock 0, .code (cAt (bodyOf Tryz.f202) [1, 1, 1, 1])]
inductive St_spec_l06Mask where
  | c0 (key_0 : ByteArray) (x_1 : Int) (i_6 : Int) (out_5 : (List Int))
noncomputable def at_spec_l06Mask : St_spec_l06Mask → LI
  | .c0 key_0 x_1 i_6 out_5 => (todo_spec_l06Mask_0, [(0, [.one (.str key_0)]), (1, [.one (.int .u8 x_1)]), (5, [.one (.own 368)]), (6, [.one (.int .i64 i_6)])], [(368, .sl 5 out_5)])
noncomputable def E_spec_l06Mask (spec_DigestOf : ByteArray → Option ByteArray) (k : St_spec_l06Mask → Option ByteArray) (key_0 : ByteArray) (x_1 : Int) : Option ByteArray :=
  bif (decide ((key_0.size : Int) > 64)) then
    (spec_DigestOf key_0).bind fun r0 =>
    k (.c0 r0 x_1 (0 : Int) (List.replicate (64 : Int).toNat (0 : Int)))
  else
    k (.c0 key_0 x_1 (0 : Int) (List.replicate (64 : Int).toNat (0 : Int)))
noncomputable def B_spec_l06Mask (spec_DigestOf : ByteArray → Option ByteArray) (k : St_spec_l06Mask → Option ByteArray) : St_spec_l06Mask → Option ByteArray
  | .c0 key_0 x_1 i_6 out_5 =>
    bif (decide (i_6 < 64)) then
      bif (decide (i_6 < (key_0.size : Int))) then
        bif ((decide (0 ≤ i_6)) && (decide (i_6 < (key_0.size : Int)))) then
        bif ((decide (0 ≤ i_6)) && (decide (i_6 < (out_5.length : Int)))) then
        bif ((decide (0 ≤ i_6)) && (decide (i_6 < ((out_5.set i_6.toNat (bt key_0 i_6)).length : Int)))) then
        bif ((decide (0 ≤ i_6)) && (decide (i_6 < ((out_5.set i_6.toNat (bt key_0 i_6)).length : Int)))) then
        k (.c0 key_0 x_1 (w64 (i_6 + 1)) ((out_5.set i_6.toNat (bt key_0 i_6)).set i_6.toNat (w8 (((BitVec.toNat ((BitVec.ofInt (IntKind.bits IntKind.u8) ((out_5.set i_6.toNat (bt key_0 i_6)).getD i_6.toNat 0)) ^^^ (BitVec.ofInt (IntKind.bits IntKind.u8) x_1))) : Nat) : Int))))
        else none
        else none
        else none
        else none
      else
        bif ((decide (0 ≤ i_6)) && (decide (i_6 < (out_5.length : Int)))) then
        bif ((decide (0 ≤ i_6)) && (decide (i_6 < (out_5.length : Int)))) then
        k (.c0 key_0 x_1 (w64 (i_6 + 1)) (out_5.set i_6.toNat (w8 (((BitVec.toNat ((BitVec.ofInt (IntKind.bits IntKind.u8) (out_5.getD i_6.toNat 0)) ^^^ (BitVec.ofInt (IntKind.bits IntKind.u8) x_1))) : Nat) : Int))))
        else none
        else none
    else
      some (ofBytes out_5)
noncomputable def L_spec_l06Mask : Nat → St_spec_l06Mask → Option ByteArray
  | 0, _ => none
  | m + 1, s => B_spec_l06Mask spec_DigestOf (L_spec_l06Mask m) s
noncomputable def spec_l06Mask (key_0 : ByteArray) (x_1 : Int) : Option ByteArray := E_spec_l06Mask spec_DigestOf (L_spec_l06Mask gas) key_0 x_1
theorem e_spec_l06Mask (spec_DigestOf : ByteArray → Option ByteArray) : EntryIs ctx PP 202 [] [(108, H_spec_DigestOf spec_DigestOf)] cv28 cv11 at_spec_l06Mask (fun k a => E_spec_l06Mask spec_DigestOf k a.1 a.2) := fun stop a => by kernel_rfl
theorem b_spec_l06Mask (spec_DigestOf : ByteArray → Option ByteArray) : CutIs ctx PP 202 Tryz.f202 [] [(108, H_spec_DigestOf spec_DigestOf)] cv11 at_spec_l06Mask (B_spec_l06Mask spec_DigestOf) := fun stop s => by cases s <;> kernel_rfl
theorem i_spec_l06Mask : ∀ s s', at_spec_l06Mask s = at_spec_l06Mask s' → s = s' := by
  intro s s' h
  cases s with
  | c0 v0 v1 v2 v3 => cases s' with
    | c0 w0 w1 w2 w3 => cases h; rfl
theorem ok_spec_l06Mask : Tells ctx PP 202 cv28 cv11 (fun a => spec_l06Mask a.1 a.2) := fn_ok (hl_cons h_spec_DigestOf hl_nil) Tryz.func202 i_spec_l06Mask (fun _ => rfl) (fun _ _ => rfl) (b_spec_l06Mask spec_DigestOf) (e_spec_l06Mask spec_DigestOf) gas
noncomputable def H_spec_l06Mask {γ : Type} (F : ByteArray → Int → Option ByteArray) : Hd ctx γ := hdl cv28.dec (fun a => F a.1 a.2) cv11.enc
theorem h_spec_l06Mask {γ : Type} : HdOk (γ := γ) PP 202 (H_spec_l06Mask spec_l06Mask) := hd_ok ok_spec_l06Mask
noncomputable def E_spec_MacOf (spec_l06Mask : ByteArray → Int → Option ByteArray) (spec_DigestOf : ByteArray → Option ByteArray) (key_0 : ByteArray) (s_1 : ByteArray) : Option ByteArray :=
  (spec_l06Mask key_0 (92 : Int)).bind fun r0 =>
  (spec_l06Mask key_0 (54 : Int)).bind fun r1 =>
  bif (decide ((r1.size + s_1.size) ≤ 9223372036854775807)) then
  (spec_DigestOf (r1 ++ s_1)).bind fun r2 =>
  bif (decide ((r0.size + r2.size) ≤ 9223372036854775807)) then
  (spec_DigestOf (r0 ++ r2)).bind fun r3 =>
  some r3
  else none
  else none
noncomputable def spec_MacOf (key_0 : ByteArray) (s_1 : ByteArray) : Option ByteArray := E_spec_MacOf spec_l06Mask spec_DigestOf key_0 s_1
theorem e_spec_MacOf (spec_l06Mask : ByteArray → Int → Option ByteArray) (spec_DigestOf : ByteArray → Option ByteArray) : EntryIs0 ctx PP 181 [] [(202, H_spec_l06Mask spec_l06Mask), (108, H_spec_DigestOf spec_DigestOf)] cv29 cv11 (fun a => E_spec_MacOf spec_l06Mask spec_DigestOf a.1 a.2) := fun a => by kernel_rfl
theorem ok_spec_MacOf : Tells ctx PP 181 cv29 cv11 (fun a => spec_MacOf a.1 a.2) := fn_ok0 (hl_cons h_spec_l06Mask (hl_cons h_spec_DigestOf hl_nil)) Tryz.func181 (e_spec_MacOf spec_l06Mask spec_DigestOf)
noncomputable def H_spec_MacOf {γ : Type} (F : ByteArray → ByteArray → Option ByteArray) : Hd ctx γ := hdl cv29.dec (fun a => F a.1 a.2) cv11.enc
theorem h_spec_MacOf {γ : Type} : HdOk (γ := γ) PP 181 (H_spec_MacOf spec_MacOf) := hd_ok ok_spec_MacOf
noncomputable def todo_spec_Mask_0 : List Go.Item := [.code (cAt (bodyOf Tryz.f143) [1, 1, 1, 0, 1, 0, 0, 0, 0]), .code (cAt (bodyOf Tryz.f143) [1, 1, 1, 0, 1, 0, 0, 0, 1]), .code (cAt (bodyOf Tryz.f143) [1, 1, 1, 0, 1, 0, 0, 1]), .inLoop (cAt (bodyOf Tryz.f143) [1, 1, 1, 0, 1, 0, 0]), .inBlock 0, .code (cAt (bodyOf Tryz.f143) [1, 1, 1, 1])]
inductive St_spec_Mask where
  | c0 (key_0 : ByteArray) (num_1 : Int) (n_2 : Int) (i_9 : Int) (out_8 : (List Int))
noncomputable def at_spec_Mask : St_spec_Mask → LI
  | .c0 key_0 num_1 n_2 i_9 out_8 => (todo_spec_Mask_0, [(0, [.one (.str key_0)]), (1, [.one (.int .i64 num_1)]), (2, [.one (.int .i64 n_2)]), (8, [.one (.own 560)]), (9, [.one (.int .i64 i_9)])], [(560, .sl 5 out_8)])
noncomputable def E_spec_Mask (spec_l01In : Int → Int → Int → Option Bool) (spec_l01Var : Int → Option ByteArray) (spec_l06Byte : Int → Option ByteArray) (spec_MacOf : ByteArray → ByteArray → Option ByteArray) (k : St_spec_Mask → Option (ByteArray × Bool)) (key_0 : ByteArray) (num_1 : Int) (n_2 : Int) : Option (ByteArray × Bool) :=
  (spec_l01In num_1 (0 : Int) (1000000000 : Int)).bind fun r0 =>
  bif (!r0) then
    some ((⟨#[]⟩ : ByteArray), false)
  else
    (spec_l01In n_2 (0 : Int) (8000 : Int)).bind fun r1 =>
    bif (!r1) then
      some ((⟨#[]⟩ : ByteArray), false)
    else
      k (.c0 key_0 num_1 n_2 (0 : Int) [])
noncomputable def B_spec_Mask (spec_l01In : Int → Int → Int → Option Bool) (spec_l01Var : Int → Option ByteArray) (spec_l06Byte : Int → Option ByteArray) (spec_MacOf : ByteArray → ByteArray → Option ByteArray) (k : St_spec_Mask → Option (ByteArray × Bool)) : St_spec_Mask → Option (ByteArray × Bool)
  | .c0 key_0 num_1 n_2 i_9 out_8 =>
    bif (decide ((out_8.length : Int) < n_2)) then
      (spec_l01Var num_1).bind fun r0 =>
      bif (decide (((⟨#[109]⟩ : ByteArray).size + r0.size) ≤ 9223372036854775807)) then
      (spec_l06Byte i_9).bind fun r1 =>
      bif (decide ((((⟨#[109]⟩ : ByteArray) ++ r0).size + r1.size) ≤ 9223372036854775807)) then
      (spec_MacOf key_0 (((⟨#[109]⟩ : ByteArray) ++ r0) ++ r1)).bind fun r2 =>
      bif (decide (r2.size ≤ 9223372036854775807)) then
      bif (decide (((out_8.length + (bytesOf r2).length) * 1) ≤ 140737488355328)) then
      k (.c0 key_0 num_1 n_2 (w64 (i_9 + 1)) (out_8 ++ (bytesOf r2)))
      else none
      else none
      else none
      else none
    else
      bif ((decide (0 ≤ n_2)) && (decide (n_2 ≤ (out_8.length : Int)))) then
      some ((ofBytes ((out_8.drop 0).take (n_2.toNat - 0))), true)
      else none
noncomputable def L_spec_Mask : Nat → St_spec_Mask → Option (ByteArray × Bool)
  | 0, _ => none
  | m + 1, s => B_spec_Mask spec_l01In spec_l01Var spec_l06Byte spec_MacOf (L_spec_Mask m) s
noncomputable def spec_Mask (key_0 : ByteArray) (num_1 : Int) (n_2 : Int) : Option (ByteArray × Bool) := E_spec_Mask spec_l01In spec_l01Var spec_l06Byte spec_MacOf (L_spec_Mask gas) key_0 num_1 n_2
theorem e_spec_Mask (spec_l01In : Int → Int → Int → Option Bool) (spec_l01Var : Int → Option ByteArray) (spec_l06Byte : Int → Option ByteArray) (spec_MacOf : ByteArray → ByteArray → Option ByteArray) : EntryIs ctx PP 143 [] [(60, H_spec_l01In spec_l01In), (152, H_spec_l01Var spec_l01Var), (182, H_spec_l06Byte spec_l06Byte), (181, H_spec_MacOf spec_MacOf)] cv30 cv14 at_spec_Mask (fun k a => E_spec_Mask spec_l01In spec_l01Var spec_l06Byte spec_MacOf k a.1 a.2.1 a.2.2) := fun stop a => by kernel_rfl
theorem b_spec_Mask (spec_l01In : Int → Int → Int → Option Bool) (spec_l01Var : Int → Option ByteArray) (spec_l06Byte : Int → Option ByteArray) (spec_MacOf : ByteArray → ByteArray → Option ByteArray) : CutIs ctx PP 143 Tryz.f143 [] [(60, H_spec_l01In spec_l01In), (152, H_spec_l01Var spec_l01Var), (182, H_spec_l06Byte spec_l06Byte), (181, H_spec_MacOf spec_MacOf)] cv14 at_spec_Mask (B_spec_Mask spec_l01In spec_l01Var spec_l06Byte spec_MacOf) := fun stop s => by cases s <;> kernel_rfl
theorem i_spec_Mask : ∀ s s', at_spec_Mask s = at_spec_Mask s' → s = s' := by
  intro s s' h
  cases s with
  | c0 v0 v1 v2 v3 v4 => cases s' with
    | c0 w0 w1 w2 w3 w4 => cases h; rfl
theorem ok_spec_Mask : Tells ctx PP 143 cv30 cv14 (fun a => spec_Mask a.1 a.2.1 a.2.2) := fn_ok (hl_cons h_spec_l01In (hl_cons h_spec_l01Var (hl_cons h_spec_l06Byte (hl_cons h_spec_MacOf hl_nil)))) Tryz.func143 i_spec_Mask (fun _ => rfl) (fun _ _ => rfl) (b_spec_Mask spec_l01In spec_l01Var spec_l06Byte spec_MacOf) (e_spec_Mask spec_l01In spec_l01Var spec_l06Byte spec_MacOf) gas
noncomputable def H_spec_Mask {γ : Type} (F : ByteArray → Int → Int → Option (ByteArray × Bool)) : Hd ctx γ := hdl cv30.dec (fun a => F a.1 a.2.1 a.2.2) cv14.enc
theorem h_spec_Mask {γ : Type} : HdOk (γ := γ) PP 143 (H_spec_Mask spec_Mask) := hd_ok ok_spec_Mask
noncomputable def E_spec_l18Tag (spec_l01Var : Int → Option ByteArray) (spec_MacOf : ByteArray → ByteArray → Option ByteArray) (key_0 : ByteArray) (num_1 : Int) (s_2 : ByteArray) : Option ByteArray :=
  (spec_l01Var num_1).bind fun r0 =>
  bif (decide (((⟨#[116]⟩ : ByteArray).size + r0.size) ≤ 9223372036854775807)) then
  bif (decide ((((⟨#[116]⟩ : ByteArray) ++ r0).size + s_2.size) ≤ 9223372036854775807)) then
  (spec_MacOf key_0 (((⟨#[116]⟩ : ByteArray) ++ r0) ++ s_2)).bind fun r1 =>
  bif ((decide ((0 : Int) ≤ (16 : Int))) && (decide (16 ≤ (r1.size : Int)))) then
  some (r1.extract 0 (16 : Int).toNat)
  else none
  else none
  else none
noncomputable def spec_l18Tag (key_0 : ByteArray) (num_1 : Int) (s_2 : ByteArray) : Option ByteArray := E_spec_l18Tag spec_l01Var spec_MacOf key_0 num_1 s_2
theorem e_spec_l18Tag (spec_l01Var : Int → Option ByteArray) (spec_MacOf : ByteArray → ByteArray → Option ByteArray) : EntryIs0 ctx PP 145 [] [(152, H_spec_l01Var spec_l01Var), (181, H_spec_MacOf spec_MacOf)] cv31 cv11 (fun a => E_spec_l18Tag spec_l01Var spec_MacOf a.1 a.2.1 a.2.2) := fun a => by kernel_rfl
theorem ok_spec_l18Tag : Tells ctx PP 145 cv31 cv11 (fun a => spec_l18Tag a.1 a.2.1 a.2.2) := fn_ok0 (hl_cons h_spec_l01Var (hl_cons h_spec_MacOf hl_nil)) Tryz.func145 (e_spec_l18Tag spec_l01Var spec_MacOf)
noncomputable def H_spec_l18Tag {γ : Type} (F : ByteArray → Int → ByteArray → Option ByteArray) : Hd ctx γ := hdl cv31.dec (fun a => F a.1 a.2.1 a.2.2) cv11.enc
theorem h_spec_l18Tag {γ : Type} : HdOk (γ := γ) PP 145 (H_spec_l18Tag spec_l18Tag) := hd_ok ok_spec_l18Tag
noncomputable def E_spec_SameMac  (a_0 : ByteArray) (b_1 : ByteArray) : Option Bool :=
  some ((ByteArray.toList a_0) == (ByteArray.toList b_1))
noncomputable def spec_SameMac (a_0 : ByteArray) (b_1 : ByteArray) : Option Bool := E_spec_SameMac  a_0 b_1
theorem e_spec_SameMac  : EntryIs0 ctx PP 144 [] [] cv29 cv10 (fun a => E_spec_SameMac  a.1 a.2) := fun a => by kernel_rfl
theorem ok_spec_SameMac : Tells ctx PP 144 cv29 cv10 (fun a => spec_SameMac a.1 a.2) := fn_ok0 hl_nil Tryz.func144 (e_spec_SameMac )
noncomputable def H_spec_SameMac {γ : Type} (F : ByteArray → ByteArray → Option Bool) : Hd ctx γ := hdl cv29.dec (fun a => F a.1 a.2) cv10.enc
theorem h_spec_SameMac {γ : Type} : HdOk (γ := γ) PP 144 (H_spec_SameMac spec_SameMac) := hd_ok ok_spec_SameMac
noncomputable def todo_spec_l18Xor_0 : List Go.Item := [.code (cAt (bodyOf Tryz.f146) [1, 1, 0, 1, 0, 0, 0, 0]), .code (cAt (bodyOf Tryz.f146) [1, 1, 0, 1, 0, 0, 0, 1]), .code (cAt (bodyOf Tryz.f146) [1, 1, 0, 1, 0, 0, 1]), .inLoop (cAt (bodyOf Tryz.f146) [1, 1, 0, 1, 0, 0]), .inBlock 0, .code (cAt (bodyOf Tryz.f146) [1, 1, 1])]
inductive St_spec_l18Xor where
  | c0 (b_1 : ByteArray) (i_6 : Int) (out_5 : (List Int))
noncomputable def at_spec_l18Xor : St_spec_l18Xor → LI
  | .c0 b_1 i_6 out_5 => (todo_spec_l18Xor_0, [(1, [.one (.str b_1)]), (5, [.one (.own 368)]), (6, [.one (.int .i64 i_6)])], [(368, .sl 5 out_5)])
noncomputable def E_spec_l18Xor  (k : St_spec_l18Xor → Option ByteArray) (a_0 : ByteArray) (b_1 : ByteArray) : Option ByteArray :=
  bif (decide (a_0.size ≤ 9223372036854775807)) then
  k (.c0 b_1 (0 : Int) (bytesOf a_0))
  else none
noncomputable def B_spec_l18Xor  (k : St_spec_l18Xor → Option ByteArray) : St_spec_l18Xor → Option ByteArray
  | .c0 b_1 i_6 out_5 =>
    bif (decide (i_6 < (out_5.length : Int))) then
      bif ((decide (0 ≤ i_6)) && (decide (i_6 < (out_5.length : Int)))) then
      bif ((decide (0 ≤ i_6)) && (decide (i_6 < (b_1.size : Int)))) then
      bif ((decide (0 ≤ i_6)) && (decide (i_6 < (out_5.length : Int)))) then
      k (.c0 b_1 (w64 (i_6 + 1)) (out_5.set i_6.toNat (w8 (((BitVec.toNat ((BitVec.ofInt (IntKind.bits IntKind.u8) (out_5.getD i_6.toNat 0)) ^^^ (BitVec.ofInt (IntKind.bits IntKind.u8) (bt b_1 i_6)))) : Nat) : Int))))
      else none
      else none
      else none
    else
      some (ofBytes out_5)
noncomputable def L_spec_l18Xor : Nat → St_spec_l18Xor → Option ByteArray
  | 0, _ => none
  | m + 1, s => B_spec_l18Xor  (L_spec_l18Xor m) s
noncomputable def spec_l18Xor (a_0 : ByteArray) (b_1 : ByteArray) : Option ByteArray := E_spec_l18Xor  (L_spec_l18Xor gas) a_0 b_1
theorem e_spec_l18Xor  : EntryIs ctx PP 146 [] [] cv29 cv11 at_spec_l18Xor (fun k a => E_spec_l18Xor  k a.1 a.2) := fun stop a => by kernel_rfl
theorem b_spec_l18Xor  : CutIs ctx PP 146 Tryz.f146 [] [] cv11 at_spec_l18Xor (B_spec_l18Xor ) := fun stop s => by cases s <;> kernel_rfl
theorem i_spec_l18Xor : ∀ s s', at_spec_l18Xor s = at_spec_l18Xor s' → s = s' := by
  intro s s' h
  cases s with
  | c0 v0 v1 v2 => cases s' with
    | c0 w0 w1 w2 => cases h; rfl
theorem ok_spec_l18Xor : Tells ctx PP 146 cv29 cv11 (fun a => spec_l18Xor a.1 a.2) := fn_ok hl_nil Tryz.func146 i_spec_l18Xor (fun _ => rfl) (fun _ _ => rfl) (b_spec_l18Xor ) (e_spec_l18Xor ) gas
noncomputable def H_spec_l18Xor {γ : Type} (F : ByteArray → ByteArray → Option ByteArray) : Hd ctx γ := hdl cv29.dec (fun a => F a.1 a.2) cv11.enc
theorem h_spec_l18Xor {γ : Type} : HdOk (γ := γ) PP 146 (H_spec_l18Xor spec_l18Xor) := hd_ok ok_spec_l18Xor
noncomputable def E_spec_OpenText (spec_Mask : ByteArray → Int → Int → Option (ByteArray × Bool)) (spec_l18Tag : ByteArray → Int → ByteArray → Option ByteArray) (spec_SameMac : ByteArray → ByteArray → Option Bool) (spec_l18Xor : ByteArray → ByteArray → Option ByteArray) (key_0 : ByteArray) (num_1 : Int) (text_2 : ByteArray) : Option (ByteArray × Bool) :=
  bif (decide ((text_2.size : Int) < 16)) then
    some ((⟨#[]⟩ : ByteArray), false)
  else
    bif ((decide (0 ≤ (w64 ((text_2.size : Int) - 16)))) && (decide ((w64 ((text_2.size : Int) - 16)) ≤ (text_2.size : Int)))) then
    (spec_Mask key_0 num_1 ((text_2.extract 0 (w64 ((text_2.size : Int) - 16)).toNat).size : Int)).bind fun r0 =>
    bif (!r0.2) then
      some ((⟨#[]⟩ : ByteArray), false)
    else
      (spec_l18Tag key_0 num_1 (text_2.extract 0 (w64 ((text_2.size : Int) - 16)).toNat)).bind fun r1 =>
      bif ((decide (0 ≤ ((text_2.extract 0 (w64 ((text_2.size : Int) - 16)).toNat).size : Int))) && (decide (((text_2.extract 0 (w64 ((text_2.size : Int) - 16)).toNat).size : Int) ≤ (text_2.size : Int)))) then
      (spec_SameMac r1 (text_2.extract ((text_2.extract 0 (w64 ((text_2.size : Int) - 16)).toNat).size : Int).toNat text_2.size)).bind fun r2 =>
      bif (!r2) then
        some ((⟨#[]⟩ : ByteArray), false)
      else
        (spec_l18Xor (text_2.extract 0 (w64 ((text_2.size : Int) - 16)).toNat) r0.1).bind fun r3 =>
        some (r3, true)
      else none
    else none
noncomputable def spec_OpenText (key_0 : ByteArray) (num_1 : Int) (text_2 : ByteArray) : Option (ByteArray × Bool) := E_spec_OpenText spec_Mask spec_l18Tag spec_SameMac spec_l18Xor key_0 num_1 text_2
theorem e_spec_OpenText (spec_Mask : ByteArray → Int → Int → Option (ByteArray × Bool)) (spec_l18Tag : ByteArray → Int → ByteArray → Option ByteArray) (spec_SameMac : ByteArray → ByteArray → Option Bool) (spec_l18Xor : ByteArray → ByteArray → Option ByteArray) : EntryIs0 ctx PP 103 [] [(143, H_spec_Mask spec_Mask), (145, H_spec_l18Tag spec_l18Tag), (144, H_spec_SameMac spec_SameMac), (146, H_spec_l18Xor spec_l18Xor)] cv31 cv14 (fun a => E_spec_OpenText spec_Mask spec_l18Tag spec_SameMac spec_l18Xor a.1 a.2.1 a.2.2) := fun a => by kernel_rfl
theorem ok_spec_OpenText : Tells ctx PP 103 cv31 cv14 (fun a => spec_OpenText a.1 a.2.1 a.2.2) := fn_ok0 (hl_cons h_spec_Mask (hl_cons h_spec_l18Tag (hl_cons h_spec_SameMac (hl_cons h_spec_l18Xor hl_nil)))) Tryz.func103 (e_spec_OpenText spec_Mask spec_l18Tag spec_SameMac spec_l18Xor)
noncomputable def H_spec_OpenText {γ : Type} (F : ByteArray → Int → ByteArray → Option (ByteArray × Bool)) : Hd ctx γ := hdl cv31.dec (fun a => F a.1 a.2.1 a.2.2) cv14.enc
theorem h_spec_OpenText {γ : Type} : HdOk (γ := γ) PP 103 (H_spec_OpenText spec_OpenText) := hd_ok ok_spec_OpenText
noncomputable def E_spec_l19Take  (c_0 : SL19Cur) (n_1 : Int) : Option (ByteArray × SL19Cur) :=
  bif c_0.fBad then
    some ((⟨#[]⟩ : ByteArray), (⟨c_0.fText, c_0.fAt, true⟩ : SL19Cur))
  else
    bif (decide (n_1 > (w64 ((c_0.fText.size : Int) - c_0.fAt)))) then
      some ((⟨#[]⟩ : ByteArray), (⟨c_0.fText, c_0.fAt, true⟩ : SL19Cur))
    else
      bif (((decide (0 ≤ (w64 ((w64 (c_0.fAt + n_1)) - n_1)))) && (decide ((w64 ((w64 (c_0.fAt + n_1)) - n_1)) ≤ (w64 (c_0.fAt + n_1))))) && (decide ((w64 (c_0.fAt + n_1)) ≤ (c_0.fText.size : Int)))) then
      some ((c_0.fText.extract (w64 ((w64 (c_0.fAt + n_1)) - n_1)).toNat (w64 (c_0.fAt + n_1)).toNat), (⟨c_0.fText, (w64 (c_0.fAt + n_1)), c_0.fBad⟩ : SL19Cur))
      else none
noncomputable def spec_l19Take (c_0 : SL19Cur) (n_1 : Int) : Option (ByteArray × SL19Cur) := E_spec_l19Take  c_0 n_1
theorem e_spec_l19Take  : EntryIs0 ctx PP 148 [0] [] cv32 cv33 (fun a => E_spec_l19Take  a.1 a.2) := fun a => by kernel_rfl
theorem ok_spec_l19Take : Tells ctx PP 148 cv32 cv33 (fun a => spec_l19Take a.1 a.2) := fn_ok0 hl_nil Tryz.func148 (e_spec_l19Take )
noncomputable def H_spec_l19Take {γ : Type} (F : SL19Cur → Int → Option (ByteArray × SL19Cur)) : Hd ctx γ := hdl cv32.dec (fun a => F a.1 a.2) cv33.enc
theorem h_spec_l19Take {γ : Type} : HdOk (γ := γ) PP 148 (H_spec_l19Take spec_l19Take) := hd_ok ok_spec_l19Take
noncomputable def E_spec_l19One (spec_l19Take : SL19Cur → Int → Option (ByteArray × SL19Cur)) (c_0 : SL19Cur) : Option (Int × SL19Cur) :=
  (spec_l19Take c_0 (1 : Int)).bind fun r0 =>
  bif r0.2.fBad then
    some ((0 : Int), r0.2)
  else
    bif ((decide ((0 : Int) ≤ (0 : Int))) && (decide (0 < (r0.1.size : Int)))) then
    some ((w64 (bt r0.1 (0 : Int))), r0.2)
    else none
noncomputable def spec_l19One (c_0 : SL19Cur) : Option (Int × SL19Cur) := E_spec_l19One spec_l19Take c_0
theorem e_spec_l19One (spec_l19Take : SL19Cur → Int → Option (ByteArray × SL19Cur)) : EntryIs0 ctx PP 147 [0] [(148, H_spec_l19Take spec_l19Take)] cv34 cv35 (fun a => E_spec_l19One spec_l19Take a) := fun a => by kernel_rfl
theorem ok_spec_l19One : Tells ctx PP 147 cv34 cv35 (fun a => spec_l19One a) := fn_ok0 (hl_cons h_spec_l19Take hl_nil) Tryz.func147 (e_spec_l19One spec_l19Take)
noncomputable def H_spec_l19One {γ : Type} (F : SL19Cur → Option (Int × SL19Cur)) : Hd ctx γ := hdl cv34.dec (fun a => F a) cv35.enc
theorem h_spec_l19One {γ : Type} : HdOk (γ := γ) PP 147 (H_spec_l19One spec_l19One) := hd_ok ok_spec_l19One
noncomputable def E_spec_l19Var (spec_ReadVar : ByteArray → Int → Option (Int × Int × Bool)) (c_0 : SL19Cur) : Option (Int × SL19Cur) :=
  (spec_ReadVar c_0.fText c_0.fAt).bind fun r0 =>
  bif c_0.fBad then
    some ((0 : Int), (⟨c_0.fText, c_0.fAt, true⟩ : SL19Cur))
  else
    bif (!r0.2.2) then
      some ((0 : Int), (⟨c_0.fText, c_0.fAt, true⟩ : SL19Cur))
    else
      some (r0.1, (⟨c_0.fText, r0.2.1, c_0.fBad⟩ : SL19Cur))
noncomputable def spec_l19Var (c_0 : SL19Cur) : Option (Int × SL19Cur) := E_spec_l19Var spec_ReadVar c_0
theorem e_spec_l19Var (spec_ReadVar : ByteArray → Int → Option (Int × Int × Bool)) : EntryIs0 ctx PP 149 [0] [(142, H_spec_ReadVar spec_ReadVar)] cv34 cv35 (fun a => E_spec_l19Var spec_ReadVar a) := fun a => by kernel_rfl
theorem ok_spec_l19Var : Tells ctx PP 149 cv34 cv35 (fun a => spec_l19Var a) := fn_ok0 (hl_cons h_spec_ReadVar hl_nil) Tryz.func149 (e_spec_l19Var spec_ReadVar)
noncomputable def H_spec_l19Var {γ : Type} (F : SL19Cur → Option (Int × SL19Cur)) : Hd ctx γ := hdl cv34.dec (fun a => F a) cv35.enc
theorem h_spec_l19Var {γ : Type} : HdOk (γ := γ) PP 149 (H_spec_l19Var spec_l19Var) := hd_ok ok_spec_l19Var
noncomputable def E_spec_l19ReadShort (spec_l19Var : SL19Cur → Option (Int × SL19Cur)) (spec_l19Take : SL19Cur → Int → Option (ByteArray × SL19Cur)) (c_0 : SL19Cur) : Option (ByteArray × SL19Cur) :=
  (spec_l19Var c_0).bind fun r0 =>
  (spec_l19Take r0.2 r0.1).bind fun r1 =>
  some (r1.1, r1.2)
noncomputable def spec_l19ReadShort (c_0 : SL19Cur) : Option (ByteArray × SL19Cur) := E_spec_l19ReadShort spec_l19Var spec_l19Take c_0
theorem e_spec_l19ReadShort (spec_l19Var : SL19Cur → Option (Int × SL19Cur)) (spec_l19Take : SL19Cur → Int → Option (ByteArray × SL19Cur)) : EntryIs0 ctx PP 183 [0] [(149, H_spec_l19Var spec_l19Var), (148, H_spec_l19Take spec_l19Take)] cv34 cv33 (fun a => E_spec_l19ReadShort spec_l19Var spec_l19Take a) := fun a => by kernel_rfl
theorem ok_spec_l19ReadShort : Tells ctx PP 183 cv34 cv33 (fun a => spec_l19ReadShort a) := fn_ok0 (hl_cons h_spec_l19Var (hl_cons h_spec_l19Take hl_nil)) Tryz.func183 (e_spec_l19ReadShort spec_l19Var spec_l19Take)
noncomputable def H_spec_l19ReadShort {γ : Type} (F : SL19Cur → Option (ByteArray × SL19Cur)) : Hd ctx γ := hdl cv34.dec (fun a => F a) cv33.enc
theorem h_spec_l19ReadShort {γ : Type} : HdOk (γ := γ) PP 183 (H_spec_l19ReadShort spec_l19ReadShort) := hd_ok ok_spec_l19ReadShort
noncomputable def E_spec_ThingOk (spec_l01In : Int → Int → Int → Option Bool) (x_0 : SThing) : Option Bool :=
  (spec_l01In x_0.fId (1 : Int) (1000 : Int)).bind fun r0 =>
  bif (!r0) then
    some false
  else
    (spec_l01In x_0.fKind (1 : Int) (3 : Int)).bind fun r1 =>
    bif (!r1) then
      some false
    else
      (spec_l01In x_0.fNext (0 : Int) (16 : Int)).bind fun r2 =>
      bif (!r2) then
        some false
      else
        bif (x_0.fKind != 2) then
          bif (x_0.fNext != 0) then
            some false
          else
            bif x_0.fSigns then
              some false
            else
              bif (x_0.fKind != 1) then
                bif x_0.fWraps then
                  some false
                else
                  bif (x_0.fKind == 3) then
                    some (decide ((x_0.fValue.size : Int) ≤ 100))
                  else
                    some ((x_0.fValue.size : Int) == 32)
              else
                bif (x_0.fKind == 3) then
                  some (decide ((x_0.fValue.size : Int) ≤ 100))
                else
                  some ((x_0.fValue.size : Int) == 32)
        else
          bif (x_0.fKind != 1) then
            bif x_0.fWraps then
              some false
            else
              bif (x_0.fKind == 3) then
                some (decide ((x_0.fValue.size : Int) ≤ 100))
              else
                some ((x_0.fValue.size : Int) == 32)
          else
            bif (x_0.fKind == 3) then
              some (decide ((x_0.fValue.size : Int) ≤ 100))
            else
              some ((x_0.fValue.size : Int) == 32)
noncomputable def spec_ThingOk (x_0 : SThing) : Option Bool := E_spec_ThingOk spec_l01In x_0
theorem e_spec_ThingOk (spec_l01In : Int → Int → Int → Option Bool) : EntryIs0 ctx PP 122 [] [(60, H_spec_l01In spec_l01In)] cv36 cv10 (fun a => E_spec_ThingOk spec_l01In a) := fun a => by kernel_rfl
theorem ok_spec_ThingOk : Tells ctx PP 122 cv36 cv10 (fun a => spec_ThingOk a) := fn_ok0 (hl_cons h_spec_l01In hl_nil) Tryz.func122 (e_spec_ThingOk spec_l01In)
noncomputable def H_spec_ThingOk {γ : Type} (F : SThing → Option Bool) : Hd ctx γ := hdl cv36.dec (fun a => F a) cv10.enc
theorem h_spec_ThingOk {γ : Type} : HdOk (γ := γ) PP 122 (H_spec_ThingOk spec_ThingOk) := hd_ok ok_spec_ThingOk
noncomputable def E_spec_l19Flag  (x_0 : Bool) (n_1 : Int) : Option Int :=
  bif x_0 then
    some n_1
  else
    some (0 : Int)
noncomputable def spec_l19Flag (x_0 : Bool) (n_1 : Int) : Option Int := E_spec_l19Flag  x_0 n_1
theorem e_spec_l19Flag  : EntryIs0 ctx PP 203 [] [] cv37 cv1 (fun a => E_spec_l19Flag  a.1 a.2) := fun a => by kernel_rfl
theorem ok_spec_l19Flag : Tells ctx PP 203 cv37 cv1 (fun a => spec_l19Flag a.1 a.2) := fn_ok0 hl_nil Tryz.func203 (e_spec_l19Flag )
noncomputable def H_spec_l19Flag {γ : Type} (F : Bool → Int → Option Int) : Hd ctx γ := hdl cv37.dec (fun a => F a.1 a.2) cv1.enc
theorem h_spec_l19Flag {γ : Type} : HdOk (γ := γ) PP 203 (H_spec_l19Flag spec_l19Flag) := hd_ok ok_spec_l19Flag
noncomputable def E_spec_l19Short (spec_l01Var : Int → Option ByteArray) (s_0 : ByteArray) : Option ByteArray :=
  (spec_l01Var (s_0.size : Int)).bind fun r0 =>
  bif (decide ((r0.size + s_0.size) ≤ 9223372036854775807)) then
  some (r0 ++ s_0)
  else none
noncomputable def spec_l19Short (s_0 : ByteArray) : Option ByteArray := E_spec_l19Short spec_l01Var s_0
theorem e_spec_l19Short (spec_l01Var : Int → Option ByteArray) : EntryIs0 ctx PP 204 [] [(152, H_spec_l01Var spec_l01Var)] cv11 cv11 (fun a => E_spec_l19Short spec_l01Var a) := fun a => by kernel_rfl
theorem ok_spec_l19Short : Tells ctx PP 204 cv11 cv11 (fun a => spec_l19Short a) := fn_ok0 (hl_cons h_spec_l01Var hl_nil) Tryz.func204 (e_spec_l19Short spec_l01Var)
noncomputable def H_spec_l19Short {γ : Type} (F : ByteArray → Option ByteArray) : Hd ctx γ := hdl cv11.dec (fun a => F a) cv11.enc
theorem h_spec_l19Short {γ : Type} : HdOk (γ := γ) PP 204 (H_spec_l19Short spec_l19Short) := hd_ok ok_spec_l19Short
noncomputable def E_spec_ThingText (spec_ThingOk : SThing → Option Bool) (spec_l19Flag : Bool → Int → Option Int) (spec_l01Var : Int → Option ByteArray) (spec_l06Byte : Int → Option ByteArray) (spec_l19Short : ByteArray → Option ByteArray) (x_0 : SThing) : Option (ByteArray × Bool) :=
  (spec_ThingOk x_0).bind fun r0 =>
  bif (!r0) then
    some ((⟨#[]⟩ : ByteArray), false)
  else
    (spec_l19Flag x_0.fHidden (1 : Int)).bind fun r1 =>
    (spec_l19Flag x_0.fFixed (2 : Int)).bind fun r2 =>
    (spec_l19Flag x_0.fSigns (4 : Int)).bind fun r3 =>
    (spec_l19Flag x_0.fWraps (8 : Int)).bind fun r4 =>
    (spec_l01Var x_0.fId).bind fun r5 =>
    (spec_l06Byte x_0.fKind).bind fun r6 =>
    bif (decide ((r5.size + r6.size) ≤ 9223372036854775807)) then
    (spec_l06Byte (w64 ((w64 ((w64 (r1 + r2)) + r3)) + r4))).bind fun r7 =>
    bif (decide (((r5 ++ r6).size + r7.size) ≤ 9223372036854775807)) then
    (spec_l19Short x_0.fValue).bind fun r8 =>
    bif (decide ((((r5 ++ r6) ++ r7).size + r8.size) ≤ 9223372036854775807)) then
    (spec_l01Var x_0.fNext).bind fun r9 =>
    bif (decide (((((r5 ++ r6) ++ r7) ++ r8).size + r9.size) ≤ 9223372036854775807)) then
    some (((((r5 ++ r6) ++ r7) ++ r8) ++ r9), true)
    else none
    else none
    else none
    else none
noncomputable def spec_ThingText (x_0 : SThing) : Option (ByteArray × Bool) := E_spec_ThingText spec_ThingOk spec_l19Flag spec_l01Var spec_l06Byte spec_l19Short x_0
theorem e_spec_ThingText (spec_ThingOk : SThing → Option Bool) (spec_l19Flag : Bool → Int → Option Int) (spec_l01Var : Int → Option ByteArray) (spec_l06Byte : Int → Option ByteArray) (spec_l19Short : ByteArray → Option ByteArray) : EntryIs0 ctx PP 184 [] [(122, H_spec_ThingOk spec_ThingOk), (203, H_spec_l19Flag spec_l19Flag), (152, H_spec_l01Var spec_l01Var), (182, H_spec_l06Byte spec_l06Byte), (204, H_spec_l19Short spec_l19Short)] cv36 cv14 (fun a => E_spec_ThingText spec_ThingOk spec_l19Flag spec_l01Var spec_l06Byte spec_l19Short a) := fun a => by kernel_rfl
theorem ok_spec_ThingText : Tells ctx PP 184 cv36 cv14 (fun a => spec_ThingText a) := fn_ok0 (hl_cons h_spec_ThingOk (hl_cons h_spec_l19Flag (hl_cons h_spec_l01Var (hl_cons h_spec_l06Byte (hl_cons h_spec_l19Short hl_nil))))) Tryz.func184 (e_spec_ThingText spec_ThingOk spec_l19Flag spec_l01Var spec_l06Byte spec_l19Short)
noncomputable def H_spec_ThingText {γ : Type} (F : SThing → Option (ByteArray × Bool)) : Hd ctx γ := hdl cv36.dec (fun a => F a) cv14.enc
theorem h_spec_ThingText {γ : Type} : HdOk (γ := γ) PP 184 (H_spec_ThingText spec_ThingText) := hd_ok ok_spec_ThingText
noncomputable def E_spec_ReadThing (spec_l19Var : SL19Cur → Option (Int × SL19Cur)) (spec_l19One : SL19Cur → Option (Int × SL19Cur)) (spec_l19ReadShort : SL19Cur → Option (ByteArray × SL19Cur)) (spec_ThingText : SThing → Option (ByteArray × Bool)) (text_0 : ByteArray) : Option (SThing × Bool) :=
  (spec_l19Var (⟨text_0, (0 : Int), false⟩ : SL19Cur)).bind fun r0 =>
  (spec_l19One r0.2).bind fun r1 =>
  (spec_l19One r1.2).bind fun r2 =>
  (spec_l19ReadShort r2.2).bind fun r3 =>
  (spec_l19Var r3.2).bind fun r4 =>
  (spec_ThingText (⟨r0.1, r1.1, ((r2.1.tmod 2) == 1), (((w64 (r2.1.tdiv 2)).tmod 2) == 1), (((w64 (r2.1.tdiv 4)).tmod 2) == 1), (((w64 (r2.1.tdiv 8)).tmod 2) == 1), r3.1, r4.1⟩ : SThing)).bind fun r5 =>
  bif r4.2.fBad then
    some ((⟨(0 : Int), (0 : Int), false, false, false, false, (⟨#[]⟩ : ByteArray), (0 : Int)⟩ : SThing), false)
  else
    bif (!r5.2) then
      some ((⟨(0 : Int), (0 : Int), false, false, false, false, (⟨#[]⟩ : ByteArray), (0 : Int)⟩ : SThing), false)
    else
      bif (!((ByteArray.toList r5.1) == (ByteArray.toList text_0))) then
        some ((⟨(0 : Int), (0 : Int), false, false, false, false, (⟨#[]⟩ : ByteArray), (0 : Int)⟩ : SThing), false)
      else
        some ((⟨r0.1, r1.1, ((r2.1.tmod 2) == 1), (((w64 (r2.1.tdiv 2)).tmod 2) == 1), (((w64 (r2.1.tdiv 4)).tmod 2) == 1), (((w64 (r2.1.tdiv 8)).tmod 2) == 1), r3.1, r4.1⟩ : SThing), true)
noncomputable def spec_ReadThing (text_0 : ByteArray) : Option (SThing × Bool) := E_spec_ReadThing spec_l19Var spec_l19One spec_l19ReadShort spec_ThingText text_0
theorem e_spec_ReadThing (spec_l19Var : SL19Cur → Option (Int × SL19Cur)) (spec_l19One : SL19Cur → Option (Int × SL19Cur)) (spec_l19ReadShort : SL19Cur → Option (ByteArray × SL19Cur)) (spec_ThingText : SThing → Option (ByteArray × Bool)) : EntryIs0 ctx PP 150 [] [(149, H_spec_l19Var spec_l19Var), (147, H_spec_l19One spec_l19One), (183, H_spec_l19ReadShort spec_l19ReadShort), (184, H_spec_ThingText spec_ThingText)] cv11 cv38 (fun a => E_spec_ReadThing spec_l19Var spec_l19One spec_l19ReadShort spec_ThingText a) := fun a => by kernel_rfl
theorem ok_spec_ReadThing : Tells ctx PP 150 cv11 cv38 (fun a => spec_ReadThing a) := fn_ok0 (hl_cons h_spec_l19Var (hl_cons h_spec_l19One (hl_cons h_spec_l19ReadShort (hl_cons h_spec_ThingText hl_nil)))) Tryz.func150 (e_spec_ReadThing spec_l19Var spec_l19One spec_l19ReadShort spec_ThingText)
noncomputable def H_spec_ReadThing {γ : Type} (F : ByteArray → Option (SThing × Bool)) : Hd ctx γ := hdl cv11.dec (fun a => F a) cv38.enc
theorem h_spec_ReadThing {γ : Type} : HdOk (γ := γ) PP 150 (H_spec_ReadThing spec_ReadThing) := hd_ok ok_spec_ReadThing
noncomputable def E_spec_RecText (spec_l01In : Int → Int → Int → Option Bool) (spec_l01Var : Int → Option ByteArray) (spec_ThingText : SThing → Option (ByteArray × Bool)) (r_0 : SRec) : Option (ByteArray × Bool) :=
  bif (r_0.fKind == 1) then
    bif ((r_0.fText.size : Int) == 32) then
      bif (r_0.fNum == 0) then
        bif ((r_0.fThing.fId == 0) && ((r_0.fThing.fKind == 0) && ((r_0.fThing.fHidden == false) && ((r_0.fThing.fFixed == false) && ((r_0.fThing.fSigns == false) && ((r_0.fThing.fWraps == false) && (((ByteArray.toList r_0.fThing.fValue) == (ByteArray.toList (⟨#[]⟩ : ByteArray))) && ((r_0.fThing.fNext == 0) && true)))))))) then
          bif (decide (((⟨#[1]⟩ : ByteArray).size + r_0.fText.size) ≤ 9223372036854775807)) then
          some (((⟨#[1]⟩ : ByteArray) ++ r_0.fText), true)
          else none
        else
          some ((⟨#[]⟩ : ByteArray), false)
      else
        some ((⟨#[]⟩ : ByteArray), false)
    else
      some ((⟨#[]⟩ : ByteArray), false)
  else
    bif (r_0.fKind == 2) then
      bif ((ByteArray.toList r_0.fText) == (ByteArray.toList (⟨#[]⟩ : ByteArray))) then
        bif ((r_0.fThing.fId == 0) && ((r_0.fThing.fKind == 0) && ((r_0.fThing.fHidden == false) && ((r_0.fThing.fFixed == false) && ((r_0.fThing.fSigns == false) && ((r_0.fThing.fWraps == false) && (((ByteArray.toList r_0.fThing.fValue) == (ByteArray.toList (⟨#[]⟩ : ByteArray))) && ((r_0.fThing.fNext == 0) && true)))))))) then
          (spec_l01In r_0.fNum (0 : Int) (3 : Int)).bind fun r0 =>
          bif r0 then
            (spec_l01Var r_0.fNum).bind fun r1 =>
            bif (decide (((⟨#[2]⟩ : ByteArray).size + r1.size) ≤ 9223372036854775807)) then
            some (((⟨#[2]⟩ : ByteArray) ++ r1), true)
            else none
          else
            some ((⟨#[]⟩ : ByteArray), false)
        else
          some ((⟨#[]⟩ : ByteArray), false)
      else
        some ((⟨#[]⟩ : ByteArray), false)
    else
      bif (r_0.fKind == 3) then
        (spec_ThingText r_0.fThing).bind fun r2 =>
        bif r2.2 then
          bif ((ByteArray.toList r_0.fText) == (ByteArray.toList (⟨#[]⟩ : ByteArray))) then
            bif (r_0.fNum == 0) then
              bif (decide (((⟨#[3]⟩ : ByteArray).size + r2.1.size) ≤ 9223372036854775807)) then
              some (((⟨#[3]⟩ : ByteArray) ++ r2.1), true)
              else none
            else
              some ((⟨#[]⟩ : ByteArray), false)
          else
            some ((⟨#[]⟩ : ByteArray), false)
        else
          some ((⟨#[]⟩ : ByteArray), false)
      else
        bif (r_0.fKind == 4) then
          bif ((ByteArray.toList r_0.fText) == (ByteArray.toList (⟨#[]⟩ : ByteArray))) then
            bif ((r_0.fThing.fId == 0) && ((r_0.fThing.fKind == 0) && ((r_0.fThing.fHidden == false) && ((r_0.fThing.fFixed == false) && ((r_0.fThing.fSigns == false) && ((r_0.fThing.fWraps == false) && (((ByteArray.toList r_0.fThing.fValue) == (ByteArray.toList (⟨#[]⟩ : ByteArray))) && ((r_0.fThing.fNext == 0) && true)))))))) then
              (spec_l01In r_0.fNum (1 : Int) (1000 : Int)).bind fun r3 =>
              bif r3 then
                (spec_l01Var r_0.fNum).bind fun r4 =>
                bif (decide (((⟨#[4]⟩ : ByteArray).size + r4.size) ≤ 9223372036854775807)) then
                some (((⟨#[4]⟩ : ByteArray) ++ r4), true)
                else none
              else
                some ((⟨#[]⟩ : ByteArray), false)
            else
              some ((⟨#[]⟩ : ByteArray), false)
          else
            some ((⟨#[]⟩ : ByteArray), false)
        else
          some ((⟨#[]⟩ : ByteArray), false)
noncomputable def spec_RecText (r_0 : SRec) : Option (ByteArray × Bool) := E_spec_RecText spec_l01In spec_l01Var spec_ThingText r_0
theorem e_spec_RecText (spec_l01In : Int → Int → Int → Option Bool) (spec_l01Var : Int → Option ByteArray) (spec_ThingText : SThing → Option (ByteArray × Bool)) : EntryIs0 ctx PP 151 [] [(60, H_spec_l01In spec_l01In), (152, H_spec_l01Var spec_l01Var), (184, H_spec_ThingText spec_ThingText)] cv39 cv14 (fun a => E_spec_RecText spec_l01In spec_l01Var spec_ThingText a) := fun a => by kernel_rfl
theorem ok_spec_RecText : Tells ctx PP 151 cv39 cv14 (fun a => spec_RecText a) := fn_ok0 (hl_cons h_spec_l01In (hl_cons h_spec_l01Var (hl_cons h_spec_ThingText hl_nil))) Tryz.func151 (e_spec_RecText spec_l01In spec_l01Var spec_ThingText)
noncomputable def H_spec_RecText {γ : Type} (F : SRec → Option (ByteArray × Bool)) : Hd ctx γ := hdl cv39.dec (fun a => F a) cv14.enc
theorem h_spec_RecText {γ : Type} : HdOk (γ := γ) PP 151 (H_spec_RecText spec_RecText) := hd_ok ok_spec_RecText
noncomputable def E_spec_ReadRec (spec_l19One : SL19Cur → Option (Int × SL19Cur)) (spec_l19Take : SL19Cur → Int → Option (ByteArray × SL19Cur)) (spec_l19Var : SL19Cur → Option (Int × SL19Cur)) (spec_ReadThing : ByteArray → Option (SThing × Bool)) (spec_RecText : SRec → Option (ByteArray × Bool)) (text_0 : ByteArray) : Option (SRec × Bool) :=
  (spec_l19One (⟨text_0, (0 : Int), false⟩ : SL19Cur)).bind fun r0 =>
  bif (r0.1 == 1) then
    (spec_l19Take r0.2 (32 : Int)).bind fun r1 =>
    (spec_RecText (⟨r0.1, r1.1, (0 : Int), (⟨(0 : Int), (0 : Int), false, false, false, false, (⟨#[]⟩ : ByteArray), (0 : Int)⟩ : SThing)⟩ : SRec)).bind fun r2 =>
    bif r1.2.fBad then
      some ((⟨(0 : Int), (⟨#[]⟩ : ByteArray), (0 : Int), (⟨(0 : Int), (0 : Int), false, false, false, false, (⟨#[]⟩ : ByteArray), (0 : Int)⟩ : SThing)⟩ : SRec), false)
    else
      bif (!r2.2) then
        some ((⟨(0 : Int), (⟨#[]⟩ : ByteArray), (0 : Int), (⟨(0 : Int), (0 : Int), false, false, false, false, (⟨#[]⟩ : ByteArray), (0 : Int)⟩ : SThing)⟩ : SRec), false)
      else
        bif (!((ByteArray.toList r2.1) == (ByteArray.toList text_0))) then
          some ((⟨(0 : Int), (⟨#[]⟩ : ByteArray), (0 : Int), (⟨(0 : Int), (0 : Int), false, false, false, false, (⟨#[]⟩ : ByteArray), (0 : Int)⟩ : SThing)⟩ : SRec), false)
        else
          some ((⟨r0.1, r1.1, (0 : Int), (⟨(0 : Int), (0 : Int), false, false, false, false, (⟨#[]⟩ : ByteArray), (0 : Int)⟩ : SThing)⟩ : SRec), true)
  else
    bif (r0.1 == 2) then
      bif (r0.1 == 2) then
        (spec_l19Var r0.2).bind fun r3 =>
        (spec_RecText (⟨r0.1, (⟨#[]⟩ : ByteArray), r3.1, (⟨(0 : Int), (0 : Int), false, false, false, false, (⟨#[]⟩ : ByteArray), (0 : Int)⟩ : SThing)⟩ : SRec)).bind fun r4 =>
        bif r3.2.fBad then
          some ((⟨(0 : Int), (⟨#[]⟩ : ByteArray), (0 : Int), (⟨(0 : Int), (0 : Int), false, false, false, false, (⟨#[]⟩ : ByteArray), (0 : Int)⟩ : SThing)⟩ : SRec), false)
        else
          bif (!r4.2) then
            some ((⟨(0 : Int), (⟨#[]⟩ : ByteArray), (0 : Int), (⟨(0 : Int), (0 : Int), false, false, false, false, (⟨#[]⟩ : ByteArray), (0 : Int)⟩ : SThing)⟩ : SRec), false)
          else
            bif (!((ByteArray.toList r4.1) == (ByteArray.toList text_0))) then
              some ((⟨(0 : Int), (⟨#[]⟩ : ByteArray), (0 : Int), (⟨(0 : Int), (0 : Int), false, false, false, false, (⟨#[]⟩ : ByteArray), (0 : Int)⟩ : SThing)⟩ : SRec), false)
            else
              some ((⟨r0.1, (⟨#[]⟩ : ByteArray), r3.1, (⟨(0 : Int), (0 : Int), false, false, false, false, (⟨#[]⟩ : ByteArray), (0 : Int)⟩ : SThing)⟩ : SRec), true)
      else
        bif (r0.1 == 3) then
          bif ((decide ((0 : Int) ≤ (1 : Int))) && (decide (1 ≤ (text_0.size : Int)))) then
          (spec_ReadThing (text_0.extract (1 : Int).toNat text_0.size)).bind fun r5 =>
          (spec_RecText (⟨r0.1, (⟨#[]⟩ : ByteArray), (0 : Int), r5.1⟩ : SRec)).bind fun r6 =>
          bif r0.2.fBad then
            some ((⟨(0 : Int), (⟨#[]⟩ : ByteArray), (0 : Int), (⟨(0 : Int), (0 : Int), false, false, false, false, (⟨#[]⟩ : ByteArray), (0 : Int)⟩ : SThing)⟩ : SRec), false)
          else
            bif (!r6.2) then
              some ((⟨(0 : Int), (⟨#[]⟩ : ByteArray), (0 : Int), (⟨(0 : Int), (0 : Int), false, false, false, false, (⟨#[]⟩ : ByteArray), (0 : Int)⟩ : SThing)⟩ : SRec), false)
            else
              bif (!((ByteArray.toList r6.1) == (ByteArray.toList text_0))) then
                some ((⟨(0 : Int), (⟨#[]⟩ : ByteArray), (0 : Int), (⟨(0 : Int), (0 : Int), false, false, false, false, (⟨#[]⟩ : ByteArray), (0 : Int)⟩ : SThing)⟩ : SRec), false)
              else
                some ((⟨r0.1, (⟨#[]⟩ : ByteArray), (0 : Int), r5.1⟩ : SRec), true)
          else none
        else
          (spec_RecText (⟨r0.1, (⟨#[]⟩ : ByteArray), (0 : Int), (⟨(0 : Int), (0 : Int), false, false, false, false, (⟨#[]⟩ : ByteArray), (0 : Int)⟩ : SThing)⟩ : SRec)).bind fun r7 =>
          bif r0.2.fBad then
            some ((⟨(0 : Int), (⟨#[]⟩ : ByteArray), (0 : Int), (⟨(0 : Int), (0 : Int), false, false, false, false, (⟨#[]⟩ : ByteArray), (0 : Int)⟩ : SThing)⟩ : SRec), false)
          else
            bif (!r7.2) then
              some ((⟨(0 : Int), (⟨#[]⟩ : ByteArray), (0 : Int), (⟨(0 : Int), (0 : Int), false, false, false, false, (⟨#[]⟩ : ByteArray), (0 : Int)⟩ : SThing)⟩ : SRec), false)
            else
              bif (!((ByteArray.toList r7.1) == (ByteArray.toList text_0))) then
                some ((⟨(0 : Int), (⟨#[]⟩ : ByteArray), (0 : Int), (⟨(0 : Int), (0 : Int), false, false, false, false, (⟨#[]⟩ : ByteArray), (0 : Int)⟩ : SThing)⟩ : SRec), false)
              else
                some ((⟨r0.1, (⟨#[]⟩ : ByteArray), (0 : Int), (⟨(0 : Int), (0 : Int), false, false, false, false, (⟨#[]⟩ : ByteArray), (0 : Int)⟩ : SThing)⟩ : SRec), true)
    else
      bif (r0.1 == 4) then
        (spec_l19Var r0.2).bind fun r8 =>
        (spec_RecText (⟨r0.1, (⟨#[]⟩ : ByteArray), r8.1, (⟨(0 : Int), (0 : Int), false, false, false, false, (⟨#[]⟩ : ByteArray), (0 : Int)⟩ : SThing)⟩ : SRec)).bind fun r9 =>
        bif r8.2.fBad then
          some ((⟨(0 : Int), (⟨#[]⟩ : ByteArray), (0 : Int), (⟨(0 : Int), (0 : Int), false, false, false, false, (⟨#[]⟩ : ByteArray), (0 : Int)⟩ : SThing)⟩ : SRec), false)
        else
          bif (!r9.2) then
            some ((⟨(0 : Int), (⟨#[]⟩ : ByteArray), (0 : Int), (⟨(0 : Int), (0 : Int), false, false, false, false, (⟨#[]⟩ : ByteArray), (0 : Int)⟩ : SThing)⟩ : SRec), false)
          else
            bif (!((ByteArray.toList r9.1) == (ByteArray.toList text_0))) then
              some ((⟨(0 : Int), (⟨#[]⟩ : ByteArray), (0 : Int), (⟨(0 : Int), (0 : Int), false, false, false, false, (⟨#[]⟩ : ByteArray), (0 : Int)⟩ : SThing)⟩ : SRec), false)
            else
              some ((⟨r0.1, (⟨#[]⟩ : ByteArray), r8.1, (⟨(0 : Int), (0 : Int), false, false, false, false, (⟨#[]⟩ : ByteArray), (0 : Int)⟩ : SThing)⟩ : SRec), true)
      else
        bif (r0.1 == 3) then
          bif ((decide ((0 : Int) ≤ (1 : Int))) && (decide (1 ≤ (text_0.size : Int)))) then
          (spec_ReadThing (text_0.extract (1 : Int).toNat text_0.size)).bind fun r10 =>
          (spec_RecText (⟨r0.1, (⟨#[]⟩ : ByteArray), (0 : Int), r10.1⟩ : SRec)).bind fun r11 =>
          bif r0.2.fBad then
            some ((⟨(0 : Int), (⟨#[]⟩ : ByteArray), (0 : Int), (⟨(0 : Int), (0 : Int), false, false, false, false, (⟨#[]⟩ : ByteArray), (0 : Int)⟩ : SThing)⟩ : SRec), false)
          else
            bif (!r11.2) then
              some ((⟨(0 : Int), (⟨#[]⟩ : ByteArray), (0 : Int), (⟨(0 : Int), (0 : Int), false, false, false, false, (⟨#[]⟩ : ByteArray), (0 : Int)⟩ : SThing)⟩ : SRec), false)
            else
              bif (!((ByteArray.toList r11.1) == (ByteArray.toList text_0))) then
                some ((⟨(0 : Int), (⟨#[]⟩ : ByteArray), (0 : Int), (⟨(0 : Int), (0 : Int), false, false, false, false, (⟨#[]⟩ : ByteArray), (0 : Int)⟩ : SThing)⟩ : SRec), false)
              else
                some ((⟨r0.1, (⟨#[]⟩ : ByteArray), (0 : Int), r10.1⟩ : SRec), true)
          else none
        else
          (spec_RecText (⟨r0.1, (⟨#[]⟩ : ByteArray), (0 : Int), (⟨(0 : Int), (0 : Int), false, false, false, false, (⟨#[]⟩ : ByteArray), (0 : Int)⟩ : SThing)⟩ : SRec)).bind fun r12 =>
          bif r0.2.fBad then
            some ((⟨(0 : Int), (⟨#[]⟩ : ByteArray), (0 : Int), (⟨(0 : Int), (0 : Int), false, false, false, false, (⟨#[]⟩ : ByteArray), (0 : Int)⟩ : SThing)⟩ : SRec), false)
          else
            bif (!r12.2) then
              some ((⟨(0 : Int), (⟨#[]⟩ : ByteArray), (0 : Int), (⟨(0 : Int), (0 : Int), false, false, false, false, (⟨#[]⟩ : ByteArray), (0 : Int)⟩ : SThing)⟩ : SRec), false)
            else
              bif (!((ByteArray.toList r12.1) == (ByteArray.toList text_0))) then
                some ((⟨(0 : Int), (⟨#[]⟩ : ByteArray), (0 : Int), (⟨(0 : Int), (0 : Int), false, false, false, false, (⟨#[]⟩ : ByteArray), (0 : Int)⟩ : SThing)⟩ : SRec), false)
              else
                some ((⟨r0.1, (⟨#[]⟩ : ByteArray), (0 : Int), (⟨(0 : Int), (0 : Int), false, false, false, false, (⟨#[]⟩ : ByteArray), (0 : Int)⟩ : SThing)⟩ : SRec), true)
noncomputable def spec_ReadRec (text_0 : ByteArray) : Option (SRec × Bool) := E_spec_ReadRec spec_l19One spec_l19Take spec_l19Var spec_ReadThing spec_RecText text_0
theorem e_spec_ReadRec (spec_l19One : SL19Cur → Option (Int × SL19Cur)) (spec_l19Take : SL19Cur → Int → Option (ByteArray × SL19Cur)) (spec_l19Var : SL19Cur → Option (Int × SL19Cur)) (spec_ReadThing : ByteArray → Option (SThing × Bool)) (spec_RecText : SRec → Option (ByteArray × Bool)) : EntryIs0 ctx PP 104 [] [(147, H_spec_l19One spec_l19One), (148, H_spec_l19Take spec_l19Take), (149, H_spec_l19Var spec_l19Var), (150, H_spec_ReadThing spec_ReadThing), (151, H_spec_RecText spec_RecText)] cv11 cv40 (fun a => E_spec_ReadRec spec_l19One spec_l19Take spec_l19Var spec_ReadThing spec_RecText a) := fun a => by kernel_rfl
theorem ok_spec_ReadRec : Tells ctx PP 104 cv11 cv40 (fun a => spec_ReadRec a) := fn_ok0 (hl_cons h_spec_l19One (hl_cons h_spec_l19Take (hl_cons h_spec_l19Var (hl_cons h_spec_ReadThing (hl_cons h_spec_RecText hl_nil))))) Tryz.func104 (e_spec_ReadRec spec_l19One spec_l19Take spec_l19Var spec_ReadThing spec_RecText)
noncomputable def H_spec_ReadRec {γ : Type} (F : ByteArray → Option (SRec × Bool)) : Hd ctx γ := hdl cv11.dec (fun a => F a) cv40.enc
theorem h_spec_ReadRec {γ : Type} : HdOk (γ := γ) PP 104 (H_spec_ReadRec spec_ReadRec) := hd_ok ok_spec_ReadRec
noncomputable def todo_spec_ReadBook_0 : List Go.Item := [.code (cAt (bodyOf Tryz.f39) [1, 1, 1, 1, 0, 1, 0, 0, 0, 0]), .code (cAt (bodyOf Tryz.f39) [1, 1, 1, 1, 0, 1, 0, 0, 0, 1]), .code (cAt (bodyOf Tryz.f39) [1, 1, 1, 1, 0, 1, 0, 0, 1]), .inLoop (cAt (bodyOf Tryz.f39) [1, 1, 1, 1, 0, 1, 0, 0]), .inBlock 0, .code (cAt (bodyOf Tryz.f39) [1, 1, 1, 1, 1])]
inductive St_spec_ReadBook where
  | c0 (key_0 : ByteArray) (end_9 : Int) (i_10 : Int) (out_6 : (List SRec)) (list_7 : (List ByteArray))
noncomputable def at_spec_ReadBook : St_spec_ReadBook → LI
  | .c0 key_0 end_9 i_10 out_6 list_7 => (todo_spec_ReadBook_0, [(0, [.one (.str key_0)]), (6, [.one (.own 432)]), (7, [.one (.own 496)]), (9, [.one (.int .i64 end_9)]), (10, [.one (.int .i64 i_10)])], [(432, .sl 140 out_6), (496, .sl 9 list_7)])
noncomputable def E_spec_ReadBook (spec_Unframe : ByteArray → Option ((List ByteArray) × Int)) (spec_OpenText : ByteArray → Int → ByteArray → Option (ByteArray × Bool)) (spec_ReadRec : ByteArray → Option (SRec × Bool)) (spec_Frame : ByteArray → Option (ByteArray × Bool)) (k : St_spec_ReadBook → Option ((List SRec) × Int)) (key_0 : ByteArray) (file_1 : ByteArray) : Option ((List SRec) × Int) :=
  (spec_Unframe file_1).bind fun r0 =>
  k (.c0 key_0 (0 : Int) (0 : Int) [] r0.1)
noncomputable def B_spec_ReadBook (spec_Unframe : ByteArray → Option ((List ByteArray) × Int)) (spec_OpenText : ByteArray → Int → ByteArray → Option (ByteArray × Bool)) (spec_ReadRec : ByteArray → Option (SRec × Bool)) (spec_Frame : ByteArray → Option (ByteArray × Bool)) (k : St_spec_ReadBook → Option ((List SRec) × Int)) : St_spec_ReadBook → Option ((List SRec) × Int)
  | .c0 key_0 end_9 i_10 out_6 list_7 =>
    bif (decide (i_10 < (list_7.length : Int))) then
      bif ((decide (0 ≤ i_10)) && (decide (i_10 < (list_7.length : Int)))) then
      (spec_OpenText key_0 (w64 (i_10 + 1)) (list_7.getD i_10.toNat (⟨#[]⟩ : ByteArray))).bind fun r0 =>
      (spec_ReadRec r0.1).bind fun r1 =>
      bif (!r0.2) then
        some (out_6, end_9)
      else
        bif (!r1.2) then
          some (out_6, end_9)
        else
          bif (decide (((out_6.length + 1) * 80) ≤ 140737488355328)) then
          bif ((decide (0 ≤ i_10)) && (decide (i_10 < (list_7.length : Int)))) then
          (spec_Frame (list_7.getD i_10.toNat (⟨#[]⟩ : ByteArray))).bind fun r2 =>
          k (.c0 key_0 (w64 (end_9 + (r2.1.size : Int))) (w64 (i_10 + 1)) (out_6 ++ [r1.1]) list_7)
          else none
          else none
      else none
    else
      some (out_6, end_9)
noncomputable def L_spec_ReadBook : Nat → St_spec_ReadBook → Option ((List SRec) × Int)
  | 0, _ => none
  | m + 1, s => B_spec_ReadBook spec_Unframe spec_OpenText spec_ReadRec spec_Frame (L_spec_ReadBook m) s
noncomputable def spec_ReadBook (key_0 : ByteArray) (file_1 : ByteArray) : Option ((List SRec) × Int) := E_spec_ReadBook spec_Unframe spec_OpenText spec_ReadRec spec_Frame (L_spec_ReadBook gas) key_0 file_1
theorem e_spec_ReadBook (spec_Unframe : ByteArray → Option ((List ByteArray) × Int)) (spec_OpenText : ByteArray → Int → ByteArray → Option (ByteArray × Bool)) (spec_ReadRec : ByteArray → Option (SRec × Bool)) (spec_Frame : ByteArray → Option (ByteArray × Bool)) : EntryIs ctx PP 39 [] [(102, H_spec_Unframe spec_Unframe), (103, H_spec_OpenText spec_OpenText), (104, H_spec_ReadRec spec_ReadRec), (105, H_spec_Frame spec_Frame)] cv29 cv41 at_spec_ReadBook (fun k a => E_spec_ReadBook spec_Unframe spec_OpenText spec_ReadRec spec_Frame k a.1 a.2) := fun stop a => by kernel_rfl
theorem b_spec_ReadBook (spec_Unframe : ByteArray → Option ((List ByteArray) × Int)) (spec_OpenText : ByteArray → Int → ByteArray → Option (ByteArray × Bool)) (spec_ReadRec : ByteArray → Option (SRec × Bool)) (spec_Frame : ByteArray → Option (ByteArray × Bool)) : CutIs ctx PP 39 Tryz.f39 [] [(102, H_spec_Unframe spec_Unframe), (103, H_spec_OpenText spec_OpenText), (104, H_spec_ReadRec spec_ReadRec), (105, H_spec_Frame spec_Frame)] cv41 at_spec_ReadBook (B_spec_ReadBook spec_Unframe spec_OpenText spec_ReadRec spec_Frame) := fun stop s => by cases s <;> kernel_rfl
theorem i_spec_ReadBook : ∀ s s', at_spec_ReadBook s = at_spec_ReadBook s' → s = s' := by
  intro s s' h
  cases s with
  | c0 v0 v1 v2 v3 v4 => cases s' with
    | c0 w0 w1 w2 w3 w4 => cases h; rfl
theorem ok_spec_ReadBook : Tells ctx PP 39 cv29 cv41 (fun a => spec_ReadBook a.1 a.2) := fn_ok (hl_cons h_spec_Unframe (hl_cons h_spec_OpenText (hl_cons h_spec_ReadRec (hl_cons h_spec_Frame hl_nil)))) Tryz.func39 i_spec_ReadBook (fun _ => rfl) (fun _ _ => rfl) (b_spec_ReadBook spec_Unframe spec_OpenText spec_ReadRec spec_Frame) (e_spec_ReadBook spec_Unframe spec_OpenText spec_ReadRec spec_Frame) gas
noncomputable def H_spec_ReadBook {γ : Type} (F : ByteArray → ByteArray → Option ((List SRec) × Int)) : Hd ctx γ := hdl cv29.dec (fun a => F a.1 a.2) cv41.enc
theorem h_spec_ReadBook {γ : Type} : HdOk (γ := γ) PP 39 (H_spec_ReadBook spec_ReadBook) := hd_ok ok_spec_ReadBook
noncomputable def todo_spec_l01Long_0 : List Go.Item := [.code (cAt (bodyOf Tryz.f109) [1, 1, 0, 1, 0, 0, 0, 0]), .code (cAt (bodyOf Tryz.f109) [1, 1, 0, 1, 0, 0, 0, 1]), .code (cAt (bodyOf Tryz.f109) [1, 1, 0, 1, 0, 0, 1]), .inLoop (cAt (bodyOf Tryz.f109) [1, 1, 0, 1, 0, 0]), .inBlock 0, .code (cAt (bodyOf Tryz.f109) [1, 1, 1])]
inductive St_spec_l01Long where
  | c0 (n_0 : Int) (x_1 : Int) (i_6 : Int) (out_5 : (List Int))
noncomputable def at_spec_l01Long : St_spec_l01Long → LI
  | .c0 n_0 x_1 i_6 out_5 => (todo_spec_l01Long_0, [(0, [.one (.int .i64 n_0)]), (1, [.one (.int .u8 x_1)]), (5, [.one (.own 368)]), (6, [.one (.int .i64 i_6)])], [(368, .sl 5 out_5)])
noncomputable def E_spec_l01Long  (k : St_spec_l01Long → Option ByteArray) (n_0 : Int) (x_1 : Int) : Option ByteArray :=
  bif ((((decide (0 ≤ n_0)) && (decide (n_0 ≤ n_0))) && (decide (n_0 ≤ 9223372036854775807))) && (decide ((n_0.toNat * 1) ≤ 140737488355328))) then
  k (.c0 n_0 x_1 (0 : Int) (List.replicate n_0.toNat (0 : Int)))
  else none
noncomputable def B_spec_l01Long  (k : St_spec_l01Long → Option ByteArray) : St_spec_l01Long → Option ByteArray
  | .c0 n_0 x_1 i_6 out_5 =>
    bif (decide (i_6 < n_0)) then
      bif ((decide (0 ≤ i_6)) && (decide (i_6 < (out_5.length : Int)))) then
      k (.c0 n_0 x_1 (w64 (i_6 + 1)) (out_5.set i_6.toNat x_1))
      else none
    else
      some (ofBytes out_5)
noncomputable def L_spec_l01Long : Nat → St_spec_l01Long → Option ByteArray
  | 0, _ => none
  | m + 1, s => B_spec_l01Long  (L_spec_l01Long m) s
noncomputable def spec_l01Long (n_0 : Int) (x_1 : Int) : Option ByteArray := E_spec_l01Long  (L_spec_l01Long gas) n_0 x_1
theorem e_spec_l01Long  : EntryIs ctx PP 109 [] [] cv42 cv11 at_spec_l01Long (fun k a => E_spec_l01Long  k a.1 a.2) := fun stop a => by kernel_rfl
theorem b_spec_l01Long  : CutIs ctx PP 109 Tryz.f109 [] [] cv11 at_spec_l01Long (B_spec_l01Long ) := fun stop s => by cases s <;> kernel_rfl
theorem i_spec_l01Long : ∀ s s', at_spec_l01Long s = at_spec_l01Long s' → s = s' := by
  intro s s' h
  cases s with
  | c0 v0 v1 v2 v3 => cases s' with
    | c0 w0 w1 w2 w3 => cases h; rfl
theorem ok_spec_l01Long : Tells ctx PP 109 cv42 cv11 (fun a => spec_l01Long a.1 a.2) := fn_ok hl_nil Tryz.func109 i_spec_l01Long (fun _ => rfl) (fun _ _ => rfl) (b_spec_l01Long ) (e_spec_l01Long ) gas
noncomputable def H_spec_l01Long {γ : Type} (F : Int → Int → Option ByteArray) : Hd ctx γ := hdl cv42.dec (fun a => F a.1 a.2) cv11.enc
theorem h_spec_l01Long {γ : Type} : HdOk (γ := γ) PP 109 (H_spec_l01Long spec_l01Long) := hd_ok ok_spec_l01Long
noncomputable def E_spec_BookNew (spec_DigestOf : ByteArray → Option ByteArray) (spec_l01Long : Int → Int → Option ByteArray)  : Option SBook :=
  (spec_DigestOf (⟨#[]⟩ : ByteArray)).bind fun r0 =>
  (spec_l01Long (32 : Int) (0 : Int)).bind fun r1 =>
  some (⟨r0, (0 : Int), [], (0 : Int), r1, (0 : Int)⟩ : SBook)
noncomputable def spec_BookNew  : Option SBook := E_spec_BookNew spec_DigestOf spec_l01Long 
theorem e_spec_BookNew (spec_DigestOf : ByteArray → Option ByteArray) (spec_l01Long : Int → Int → Option ByteArray) : EntryIs0 ctx PP 41 [] [(108, H_spec_DigestOf spec_DigestOf), (109, H_spec_l01Long spec_l01Long)] cv20 cv43 (fun _ => E_spec_BookNew spec_DigestOf spec_l01Long ) := fun a => by kernel_rfl
theorem ok_spec_BookNew : Tells ctx PP 41 cv20 cv43 (fun _ => spec_BookNew ) := fn_ok0 (hl_cons h_spec_DigestOf (hl_cons h_spec_l01Long hl_nil)) Tryz.func41 (e_spec_BookNew spec_DigestOf spec_l01Long)
noncomputable def H_spec_BookNew {γ : Type} (F : Option SBook) : Hd ctx γ := hdl cv20.dec (fun _ => F ) cv43.enc
theorem h_spec_BookNew {γ : Type} : HdOk (γ := γ) PP 41 (H_spec_BookNew spec_BookNew) := hd_ok ok_spec_BookNew
noncomputable def E_spec_l21Copy  (b_0 : SBook) : Option SBook :=
  bif (decide (((0 + b_0.fThings.length) * 48) ≤ 140737488355328)) then
  some (⟨b_0.fWord, b_0.fTries, ([] ++ b_0.fThings), b_0.fLast, b_0.fChain, b_0.fCount⟩ : SBook)
  else none
noncomputable def spec_l21Copy (b_0 : SBook) : Option SBook := E_spec_l21Copy  b_0
theorem e_spec_l21Copy  : EntryIs0 ctx PP 106 [] [] cv44 cv43 (fun a => E_spec_l21Copy  a) := fun a => by kernel_rfl
theorem ok_spec_l21Copy : Tells ctx PP 106 cv44 cv43 (fun a => spec_l21Copy a) := fn_ok0 hl_nil Tryz.func106 (e_spec_l21Copy )
noncomputable def H_spec_l21Copy {γ : Type} (F : SBook → Option SBook) : Hd ctx γ := hdl cv44.dec (fun a => F a) cv43.enc
theorem h_spec_l21Copy {γ : Type} : HdOk (γ := γ) PP 106 (H_spec_l21Copy spec_l21Copy) := hd_ok ok_spec_l21Copy
noncomputable def todo_spec_BookOk_0 : List Go.Item := [.code (cAt (bodyOf Tryz.f62) [1, 1, 0, 1, 0, 0, 0, 0]), .code (cAt (bodyOf Tryz.f62) [1, 1, 0, 1, 0, 0, 0, 1]), .code (cAt (bodyOf Tryz.f62) [1, 1, 0, 1, 0, 0, 1]), .inLoop (cAt (bodyOf Tryz.f62) [1, 1, 0, 1, 0, 0]), .inBlock 0, .code (cAt (bodyOf Tryz.f62) [1, 1, 1])]
inductive St_spec_BookOk where
  | c0 (i_3 : Int) (b_1 : SBook)
noncomputable def at_spec_BookOk : St_spec_BookOk → LI
  | .c0 i_3 b_1 => (todo_spec_BookOk_0, [(1, [.one (.ptr 64 0)]), (3, [.one (.int .i64 i_3)])], [(64, .var [.str b_1.fWord, .int .i64 b_1.fTries, .rsl 138 b_1.fThings, .int .i64 b_1.fLast, .str b_1.fChain, .int .i64 b_1.fCount])])
noncomputable def E_spec_BookOk (spec_l01In : Int → Int → Int → Option Bool) (spec_ThingOk : SThing → Option Bool) (k : St_spec_BookOk → Option Bool) (b_0 : SBook) : Option Bool :=
  bif ((b_0.fWord.size : Int) != 32) then
    some false
  else
    bif ((b_0.fChain.size : Int) != 32) then
      some false
    else
      (spec_l01In b_0.fTries (0 : Int) (3 : Int)).bind fun r0 =>
      bif (!r0) then
        some false
      else
        bif (decide ((b_0.fThings.length : Int) > 8)) then
          some false
        else
          (spec_l01In b_0.fLast (0 : Int) (1000 : Int)).bind fun r1 =>
          bif (!r1) then
            some false
          else
            (spec_l01In b_0.fCount (0 : Int) (10000 : Int)).bind fun r2 =>
            bif (!r2) then
              some false
            else
              k (.c0 (0 : Int) b_0)
noncomputable def B_spec_BookOk (spec_l01In : Int → Int → Int → Option Bool) (spec_ThingOk : SThing → Option Bool) (k : St_spec_BookOk → Option Bool) : St_spec_BookOk → Option Bool
  | .c0 i_3 b_1 =>
    bif (decide (i_3 < (b_1.fThings.length : Int))) then
      bif ((decide (0 ≤ i_3)) && (decide (i_3 < (b_1.fThings.length : Int)))) then
      (spec_ThingOk (b_1.fThings.getD i_3.toNat (⟨(0 : Int), (0 : Int), false, false, false, false, (⟨#[]⟩ : ByteArray), (0 : Int)⟩ : SThing))).bind fun r0 =>
      bif (!r0) then
        some false
      else
        bif ((decide (0 ≤ i_3)) && (decide (i_3 < (b_1.fThings.length : Int)))) then
        bif (decide ((b_1.fThings.getD i_3.toNat (⟨(0 : Int), (0 : Int), false, false, false, false, (⟨#[]⟩ : ByteArray), (0 : Int)⟩ : SThing)).fId > b_1.fLast)) then
          some false
        else
          bif (decide (i_3 > 0)) then
            bif ((decide (0 ≤ (w64 (i_3 - 1)))) && (decide ((w64 (i_3 - 1)) < (b_1.fThings.length : Int)))) then
            bif ((decide (0 ≤ i_3)) && (decide (i_3 < (b_1.fThings.length : Int)))) then
            bif (decide ((b_1.fThings.getD (w64 (i_3 - 1)).toNat (⟨(0 : Int), (0 : Int), false, false, false, false, (⟨#[]⟩ : ByteArray), (0 : Int)⟩ : SThing)).fId ≥ (b_1.fThings.getD i_3.toNat (⟨(0 : Int), (0 : Int), false, false, false, false, (⟨#[]⟩ : ByteArray), (0 : Int)⟩ : SThing)).fId)) then
              some false
            else
              k (.c0 (w64 (i_3 + 1)) b_1)
            else none
            else none
          else
            k (.c0 (w64 (i_3 + 1)) b_1)
        else none
      else none
    else
      some true
noncomputable def L_spec_BookOk : Nat → St_spec_BookOk → Option Bool
  | 0, _ => none
  | m + 1, s => B_spec_BookOk spec_l01In spec_ThingOk (L_spec_BookOk m) s
noncomputable def spec_BookOk (b_0 : SBook) : Option Bool := E_spec_BookOk spec_l01In spec_ThingOk (L_spec_BookOk gas) b_0
theorem e_spec_BookOk (spec_l01In : Int → Int → Int → Option Bool) (spec_ThingOk : SThing → Option Bool) : EntryIs ctx PP 62 [] [(60, H_spec_l01In spec_l01In), (122, H_spec_ThingOk spec_ThingOk)] cv44 cv10 at_spec_BookOk (fun k a => E_spec_BookOk spec_l01In spec_ThingOk k a) := fun stop a => by kernel_rfl
theorem b_spec_BookOk (spec_l01In : Int → Int → Int → Option Bool) (spec_ThingOk : SThing → Option Bool) : CutIs ctx PP 62 Tryz.f62 [] [(60, H_spec_l01In spec_l01In), (122, H_spec_ThingOk spec_ThingOk)] cv10 at_spec_BookOk (B_spec_BookOk spec_l01In spec_ThingOk) := fun stop s => by cases s <;> kernel_rfl
theorem i_spec_BookOk : ∀ s s', at_spec_BookOk s = at_spec_BookOk s' → s = s' := by
  intro s s' h
  cases s with
  | c0 v0 v1 => cases s' with
    | c0 w0 w1 => obtain ⟨_, _, _, _, _, _⟩ := v1; obtain ⟨_, _, _, _, _, _⟩ := w1; cases h; rfl
theorem ok_spec_BookOk : Tells ctx PP 62 cv44 cv10 (fun a => spec_BookOk a) := fn_ok (hl_cons h_spec_l01In (hl_cons h_spec_ThingOk hl_nil)) Tryz.func62 i_spec_BookOk (fun _ => rfl) (fun _ _ => rfl) (b_spec_BookOk spec_l01In spec_ThingOk) (e_spec_BookOk spec_l01In spec_ThingOk) gas
noncomputable def H_spec_BookOk {γ : Type} (F : SBook → Option Bool) : Hd ctx γ := hdl cv44.dec (fun a => F a) cv10.enc
theorem h_spec_BookOk {γ : Type} : HdOk (γ := γ) PP 62 (H_spec_BookOk spec_BookOk) := hd_ok ok_spec_BookOk
noncomputable def todo_spec_ThingOf_0 : List Go.Item := [.code (cAt (bodyOf Tryz.f123) [1, 0, 1, 0, 0, 0, 0]), .code (cAt (bodyOf Tryz.f123) [1, 0, 1, 0, 0, 0, 1]), .code (cAt (bodyOf Tryz.f123) [1, 0, 1, 0, 0, 1]), .inLoop (cAt (bodyOf Tryz.f123) [1, 0, 1, 0, 0]), .inBlock 0, .code (cAt (bodyOf Tryz.f123) [1, 1])]
inductive St_spec_ThingOf where
  | c0 (id_1 : Int) (i_6 : Int) (b_2 : SBook) (v_4 : SThing)
noncomputable def at_spec_ThingOf : St_spec_ThingOf → LI
  | .c0 id_1 i_6 b_2 v_4 => (todo_spec_ThingOf_0, [(1, [.one (.int .i64 id_1)]), (2, [.one (.ptr 128 0)]), (4, [.one (.ptr 256 0)]), (6, [.one (.int .i64 i_6)])], [(128, .var [.str b_2.fWord, .int .i64 b_2.fTries, .rsl 138 b_2.fThings, .int .i64 b_2.fLast, .str b_2.fChain, .int .i64 b_2.fCount]), (256, .var [.int .i64 v_4.fId, .int .i64 v_4.fKind, .bool v_4.fHidden, .bool v_4.fFixed, .bool v_4.fSigns, .bool v_4.fWraps, .str v_4.fValue, .int .i64 v_4.fNext])])
noncomputable def E_spec_ThingOf  (k : St_spec_ThingOf → Option (SThing × Bool)) (b_0 : SBook) (id_1 : Int) : Option (SThing × Bool) :=
  k (.c0 id_1 (0 : Int) b_0 (⟨(0 : Int), (0 : Int), false, false, false, false, (⟨#[]⟩ : ByteArray), (0 : Int)⟩ : SThing))
noncomputable def B_spec_ThingOf  (k : St_spec_ThingOf → Option (SThing × Bool)) : St_spec_ThingOf → Option (SThing × Bool)
  | .c0 id_1 i_6 b_2 v_4 =>
    bif (decide (i_6 < (b_2.fThings.length : Int))) then
      bif ((decide (0 ≤ i_6)) && (decide (i_6 < (b_2.fThings.length : Int)))) then
      bif ((b_2.fThings.getD i_6.toNat (⟨(0 : Int), (0 : Int), false, false, false, false, (⟨#[]⟩ : ByteArray), (0 : Int)⟩ : SThing)).fId == id_1) then
        bif ((decide (0 ≤ i_6)) && (decide (i_6 < (b_2.fThings.length : Int)))) then
        some ((b_2.fThings.getD i_6.toNat (⟨(0 : Int), (0 : Int), false, false, false, false, (⟨#[]⟩ : ByteArray), (0 : Int)⟩ : SThing)), true)
        else none
      else
        k (.c0 id_1 (w64 (i_6 + 1)) b_2 v_4)
      else none
    else
      some ((⟨(0 : Int), (0 : Int), false, false, false, false, (⟨#[]⟩ : ByteArray), (0 : Int)⟩ : SThing), false)
noncomputable def L_spec_ThingOf : Nat → St_spec_ThingOf → Option (SThing × Bool)
  | 0, _ => none
  | m + 1, s => B_spec_ThingOf  (L_spec_ThingOf m) s
noncomputable def spec_ThingOf (b_0 : SBook) (id_1 : Int) : Option (SThing × Bool) := E_spec_ThingOf  (L_spec_ThingOf gas) b_0 id_1
theorem e_spec_ThingOf  : EntryIs ctx PP 123 [] [] cv45 cv38 at_spec_ThingOf (fun k a => E_spec_ThingOf  k a.1 a.2) := fun stop a => by kernel_rfl
theorem b_spec_ThingOf  : CutIs ctx PP 123 Tryz.f123 [] [] cv38 at_spec_ThingOf (B_spec_ThingOf ) := fun stop s => by cases s <;> kernel_rfl
theorem i_spec_ThingOf : ∀ s s', at_spec_ThingOf s = at_spec_ThingOf s' → s = s' := by
  intro s s' h
  cases s with
  | c0 v0 v1 v2 v3 => cases s' with
    | c0 w0 w1 w2 w3 => obtain ⟨_, _, _, _, _, _⟩ := v2; obtain ⟨_, _, _, _, _, _⟩ := w2; obtain ⟨_, _, _, _, _, _, _, _⟩ := v3; obtain ⟨_, _, _, _, _, _, _, _⟩ := w3; cases h; rfl
theorem ok_spec_ThingOf : Tells ctx PP 123 cv45 cv38 (fun a => spec_ThingOf a.1 a.2) := fn_ok hl_nil Tryz.func123 i_spec_ThingOf (fun _ => rfl) (fun _ _ => rfl) (b_spec_ThingOf ) (e_spec_ThingOf ) gas
noncomputable def H_spec_ThingOf {γ : Type} (F : SBook → Int → Option (SThing × Bool)) : Hd ctx γ := hdl cv45.dec (fun a => F a.1 a.2) cv38.enc
theorem h_spec_ThingOf {γ : Type} : HdOk (γ := γ) PP 123 (H_spec_ThingOf spec_ThingOf) := hd_ok ok_spec_ThingOf
noncomputable def E_spec_l21Grown  (a_0 : SThing) (b_1 : SThing) : Option Bool :=
  bif (a_0.fKind == b_1.fKind) then
    bif ((ByteArray.toList a_0.fValue) == (ByteArray.toList b_1.fValue)) then
      bif (a_0.fSigns == b_1.fSigns) then
        bif (a_0.fWraps == b_1.fWraps) then
          bif (decide (a_0.fNext ≤ b_1.fNext)) then
            bif b_1.fHidden then
              bif b_1.fFixed then
                some true
              else
                some (!a_0.fFixed)
            else
              bif (!a_0.fHidden) then
                bif b_1.fFixed then
                  some true
                else
                  some (!a_0.fFixed)
              else
                some false
          else
            some false
        else
          some false
      else
        some false
    else
      some false
  else
    some false
noncomputable def spec_l21Grown (a_0 : SThing) (b_1 : SThing) : Option Bool := E_spec_l21Grown  a_0 b_1
theorem e_spec_l21Grown  : EntryIs0 ctx PP 155 [] [] cv46 cv10 (fun a => E_spec_l21Grown  a.1 a.2) := fun a => by kernel_rfl
theorem ok_spec_l21Grown : Tells ctx PP 155 cv46 cv10 (fun a => spec_l21Grown a.1 a.2) := fn_ok0 hl_nil Tryz.func155 (e_spec_l21Grown )
noncomputable def H_spec_l21Grown {γ : Type} (F : SThing → SThing → Option Bool) : Hd ctx γ := hdl cv46.dec (fun a => F a.1 a.2) cv10.enc
theorem h_spec_l21Grown {γ : Type} : HdOk (γ := γ) PP 155 (H_spec_l21Grown spec_l21Grown) := hd_ok ok_spec_l21Grown
noncomputable def todo_spec_l21Put_0 : List Go.Item := [.code (cAt (bodyOf Tryz.f156) [1, 1, 0, 1, 0, 0, 0, 0]), .code (cAt (bodyOf Tryz.f156) [1, 1, 0, 1, 0, 0, 0, 1]), .code (cAt (bodyOf Tryz.f156) [1, 1, 0, 1, 0, 0, 1]), .inLoop (cAt (bodyOf Tryz.f156) [1, 1, 0, 1, 0, 0]), .inBlock 0, .code (cAt (bodyOf Tryz.f156) [1, 1, 1])]
noncomputable def todo_spec_l21Put_1 : List Go.Item := [.code (cAt (bodyOf Tryz.f156) [1, 1, 1, 1, 0, 1, 0, 0, 0, 0]), .code (cAt (bodyOf Tryz.f156) [1, 1, 1, 1, 0, 1, 0, 0, 0, 1]), .code (cAt (bodyOf Tryz.f156) [1, 1, 1, 1, 0, 1, 0, 0, 1]), .inLoop (cAt (bodyOf Tryz.f156) [1, 1, 1, 1, 0, 1, 0, 0]), .inBlock 2, .code (cAt (bodyOf Tryz.f156) [1, 1, 1, 1, 1])]
inductive St_spec_l21Put where
  | c0 (list_0 : (List SThing)) (i_6 : Int) (x_3 : SThing) (out_5 : (List SThing))
  | c1 (list_0 : (List SThing)) (i_7 : Int) (x_3 : SThing) (out_5 : (List SThing))
noncomputable def at_spec_l21Put : St_spec_l21Put → LI
  | .c0 list_0 i_6 x_3 out_5 => (todo_spec_l21Put_0, [(0, [.one (.rsl 138 list_0)]), (3, [.one (.ptr 192 0)]), (5, [.one (.own 368)]), (6, [.one (.int .i64 i_6)])], [(192, .var [.int .i64 x_3.fId, .int .i64 x_3.fKind, .bool x_3.fHidden, .bool x_3.fFixed, .bool x_3.fSigns, .bool x_3.fWraps, .str x_3.fValue, .int .i64 x_3.fNext]), (368, .sl 138 out_5)])
  | .c1 list_0 i_7 x_3 out_5 => (todo_spec_l21Put_1, [(0, [.one (.rsl 138 list_0)]), (3, [.one (.ptr 192 0)]), (5, [.one (.own 368)]), (7, [.one (.int .i64 i_7)])], [(192, .var [.int .i64 x_3.fId, .int .i64 x_3.fKind, .bool x_3.fHidden, .bool x_3.fFixed, .bool x_3.fSigns, .bool x_3.fWraps, .str x_3.fValue, .int .i64 x_3.fNext]), (368, .sl 138 out_5)])
noncomputable def E_spec_l21Put  (k : St_spec_l21Put → Option (List SThing)) (list_0 : (List SThing)) (x_1 : SThing) : Option (List SThing) :=
  k (.c0 list_0 (0 : Int) x_1 [])
noncomputable def B_spec_l21Put  (k : St_spec_l21Put → Option (List SThing)) : St_spec_l21Put → Option (List SThing)
  | .c0 list_0 i_6 x_3 out_5 =>
    bif (decide (i_6 < (list_0.length : Int))) then
      bif ((decide (0 ≤ i_6)) && (decide (i_6 < (list_0.length : Int)))) then
      bif (decide ((list_0.getD i_6.toNat (⟨(0 : Int), (0 : Int), false, false, false, false, (⟨#[]⟩ : ByteArray), (0 : Int)⟩ : SThing)).fId < x_3.fId)) then
        bif ((decide (0 ≤ i_6)) && (decide (i_6 < (list_0.length : Int)))) then
        bif (decide (((out_5.length + 1) * 48) ≤ 140737488355328)) then
        k (.c0 list_0 (w64 (i_6 + 1)) x_3 (out_5 ++ [(list_0.getD i_6.toNat (⟨(0 : Int), (0 : Int), false, false, false, false, (⟨#[]⟩ : ByteArray), (0 : Int)⟩ : SThing))]))
        else none
        else none
      else
        k (.c0 list_0 (w64 (i_6 + 1)) x_3 out_5)
      else none
    else
      bif (decide (((out_5.length + 1) * 48) ≤ 140737488355328)) then
      k (.c1 list_0 (0 : Int) x_3 (out_5 ++ [x_3]))
      else none
  | .c1 list_0 i_7 x_3 out_5 =>
    bif (decide (i_7 < (list_0.length : Int))) then
      bif ((decide (0 ≤ i_7)) && (decide (i_7 < (list_0.length : Int)))) then
      bif (decide ((list_0.getD i_7.toNat (⟨(0 : Int), (0 : Int), false, false, false, false, (⟨#[]⟩ : ByteArray), (0 : Int)⟩ : SThing)).fId > x_3.fId)) then
        bif ((decide (0 ≤ i_7)) && (decide (i_7 < (list_0.length : Int)))) then
        bif (decide (((out_5.length + 1) * 48) ≤ 140737488355328)) then
        k (.c1 list_0 (w64 (i_7 + 1)) x_3 (out_5 ++ [(list_0.getD i_7.toNat (⟨(0 : Int), (0 : Int), false, false, false, false, (⟨#[]⟩ : ByteArray), (0 : Int)⟩ : SThing))]))
        else none
        else none
      else
        k (.c1 list_0 (w64 (i_7 + 1)) x_3 out_5)
      else none
    else
      some out_5
noncomputable def L_spec_l21Put : Nat → St_spec_l21Put → Option (List SThing)
  | 0, _ => none
  | m + 1, s => B_spec_l21Put  (L_spec_l21Put m) s
noncomputable def spec_l21Put (list_0 : (List SThing)) (x_1 : SThing) : Option (List SThing) := E_spec_l21Put  (L_spec_l21Put gas) list_0 x_1
theorem e_spec_l21Put  : EntryIs ctx PP 156 [] [] cv47 cv48 at_spec_l21Put (fun k a => E_spec_l21Put  k a.1 a.2) := fun stop a => by kernel_rfl
theorem b_spec_l21Put  : CutIs ctx PP 156 Tryz.f156 [] [] cv48 at_spec_l21Put (B_spec_l21Put ) := fun stop s => by cases s <;> kernel_rfl
theorem i_spec_l21Put : ∀ s s', at_spec_l21Put s = at_spec_l21Put s' → s = s' := by
  intro s s' h
  cases s with
  | c0 v0 v1 v2 v3 => cases s' with
    | c0 w0 w1 w2 w3 => obtain ⟨_, _, _, _, _, _, _, _⟩ := v2; obtain ⟨_, _, _, _, _, _, _, _⟩ := w2; cases h; rfl
    | c1 w0 w1 w2 w3 => exact (region_ne 3 9 h (by kernel_rfl) (by kernel_rfl) rfl).elim
  | c1 v0 v1 v2 v3 => cases s' with
    | c0 w0 w1 w2 w3 => exact (region_ne 9 3 h (by kernel_rfl) (by kernel_rfl) rfl).elim
    | c1 w0 w1 w2 w3 => obtain ⟨_, _, _, _, _, _, _, _⟩ := v2; obtain ⟨_, _, _, _, _, _, _, _⟩ := w2; cases h; rfl
theorem ok_spec_l21Put : Tells ctx PP 156 cv47 cv48 (fun a => spec_l21Put a.1 a.2) := fn_ok hl_nil Tryz.func156 i_spec_l21Put (fun _ => rfl) (fun _ _ => rfl) (b_spec_l21Put ) (e_spec_l21Put ) gas
noncomputable def H_spec_l21Put {γ : Type} (F : (List SThing) → SThing → Option (List SThing)) : Hd ctx γ := hdl cv47.dec (fun a => F a.1 a.2) cv48.enc
theorem h_spec_l21Put {γ : Type} : HdOk (γ := γ) PP 156 (H_spec_l21Put spec_l21Put) := hd_ok ok_spec_l21Put
noncomputable def todo_spec_Enter_0 : List Go.Item := [.code (cAt (bodyOf Tryz.f107) [1, 1, 1, 1, 0, 1, 0, 1, 1, 1, 1, 1, 1, 1, 0, 1, 1, 1, 0, 1, 0, 0, 0, 0]), .code (cAt (bodyOf Tryz.f107) [1, 1, 1, 1, 0, 1, 0, 1, 1, 1, 1, 1, 1, 1, 0, 1, 1, 1, 0, 1, 0, 0, 0, 1]), .code (cAt (bodyOf Tryz.f107) [1, 1, 1, 1, 0, 1, 0, 1, 1, 1, 1, 1, 1, 1, 0, 1, 1, 1, 0, 1, 0, 0, 1]), .inLoop (cAt (bodyOf Tryz.f107) [1, 1, 1, 1, 0, 1, 0, 1, 1, 1, 1, 1, 1, 1, 0, 1, 1, 1, 0, 1, 0, 0]), .inBlock 1, .code (cAt (bodyOf Tryz.f107) [1, 1, 1, 1, 0, 1, 0, 1, 1, 1, 1, 1, 1, 1, 0, 1, 1, 1, 1]), .inBlock 0, .code (cAt (bodyOf Tryz.f107) [1, 1, 1, 1, 1])]
inductive St_spec_Enter where
  | c0 (y_6 : ByteArray) (v_14 : Int) (A_2 : SBook) (r_3 : SRec) (r_4c0 : ByteArray) (r_4c1 : Int) (r_4c3 : Int) (r_4c4 : ByteArray) (r_4c5 : Int) (v_8c0 : ByteArray) (v_8c1 : Int) (v_8c3 : Int) (v_8c4 : ByteArray) (v_8c5 : Int) (v_13 : (List SThing)) (r_4r2 : (List SThing)) (v_8r2 : (List SThing))
noncomputable def at_spec_Enter : St_spec_Enter → LI
  | .c0 y_6 v_14 A_2 r_3 r_4c0 r_4c1 r_4c3 r_4c4 r_4c5 v_8c0 v_8c1 v_8c3 v_8c4 v_8c5 v_13 r_4r2 v_8r2 => (todo_spec_Enter_0, [(2, [.one (.ptr 128 0)]), (3, [.one (.ptr 192 0)]), (4, [.one (.ptr 256 0)]), (6, [.one (.str y_6)]), (8, [.one (.ptr 512 0)]), (13, [.one (.own 880)]), (14, [.one (.int .i64 v_14)])], [(128, .var [.str A_2.fWord, .int .i64 A_2.fTries, .rsl 138 A_2.fThings, .int .i64 A_2.fLast, .str A_2.fChain, .int .i64 A_2.fCount]), (192, .var [.int .i64 r_3.fKind, .str r_3.fText, .int .i64 r_3.fNum, .int .i64 r_3.fThing.fId, .int .i64 r_3.fThing.fKind, .bool r_3.fThing.fHidden, .bool r_3.fThing.fFixed, .bool r_3.fThing.fSigns, .bool r_3.fThing.fWraps, .str r_3.fThing.fValue, .int .i64 r_3.fThing.fNext]), (256, .var [.str r_4c0, .int .i64 r_4c1, .own 1016386, .int .i64 r_4c3, .str r_4c4, .int .i64 r_4c5]), (512, .var [.str v_8c0, .int .i64 v_8c1, .own 1032770, .int .i64 v_8c3, .str v_8c4, .int .i64 v_8c5]), (880, .sl 138 v_13), (1016386, .sl 138 r_4r2), (1032770, .sl 138 v_8r2)])
noncomputable def E_spec_Enter (spec_RecText : SRec → Option (ByteArray × Bool)) (spec_BookOk : SBook → Option Bool) (spec_l21Copy : SBook → Option SBook) (spec_ThingOf : SBook → Int → Option (SThing × Bool)) (spec_l21Grown : SThing → SThing → Option Bool) (spec_l21Put : (List SThing) → SThing → Option (List SThing)) (spec_DigestOf : ByteArray → Option ByteArray) (k : St_spec_Enter → Option (SBook × Bool)) (t_0 : SBook) (o_1 : SRec) : Option (SBook × Bool) :=
  (spec_RecText o_1).bind fun r0 =>
  (spec_BookOk t_0).bind fun r1 =>
  bif (!r1) then
    some ((⟨(⟨#[]⟩ : ByteArray), (0 : Int), [], (0 : Int), (⟨#[]⟩ : ByteArray), (0 : Int)⟩ : SBook), false)
  else
    bif (!r0.2) then
      some ((⟨(⟨#[]⟩ : ByteArray), (0 : Int), [], (0 : Int), (⟨#[]⟩ : ByteArray), (0 : Int)⟩ : SBook), false)
    else
      bif (t_0.fCount == 10000) then
        some ((⟨(⟨#[]⟩ : ByteArray), (0 : Int), [], (0 : Int), (⟨#[]⟩ : ByteArray), (0 : Int)⟩ : SBook), false)
      else
        (spec_l21Copy t_0).bind fun r2 =>
        bif (o_1.fKind == 1) then
          bif (decide ((t_0.fChain.size + r0.1.size) ≤ 9223372036854775807)) then
          (spec_DigestOf (t_0.fChain ++ r0.1)).bind fun r3 =>
          (spec_BookOk (⟨o_1.fText, (0 : Int), r2.fThings, r2.fLast, r3, (w64 (t_0.fCount + 1))⟩ : SBook)).bind fun r4 =>
          bif (!r4) then
            some ((⟨(⟨#[]⟩ : ByteArray), (0 : Int), [], (0 : Int), (⟨#[]⟩ : ByteArray), (0 : Int)⟩ : SBook), false)
          else
            some ((⟨o_1.fText, (0 : Int), r2.fThings, r2.fLast, r3, (w64 (t_0.fCount + 1))⟩ : SBook), true)
          else none
        else
          bif (o_1.fKind == 2) then
            bif (decide ((t_0.fChain.size + r0.1.size) ≤ 9223372036854775807)) then
            (spec_DigestOf (t_0.fChain ++ r0.1)).bind fun r5 =>
            (spec_BookOk (⟨r2.fWord, o_1.fNum, r2.fThings, r2.fLast, r5, (w64 (t_0.fCount + 1))⟩ : SBook)).bind fun r6 =>
            bif (!r6) then
              some ((⟨(⟨#[]⟩ : ByteArray), (0 : Int), [], (0 : Int), (⟨#[]⟩ : ByteArray), (0 : Int)⟩ : SBook), false)
            else
              some ((⟨r2.fWord, o_1.fNum, r2.fThings, r2.fLast, r5, (w64 (t_0.fCount + 1))⟩ : SBook), true)
            else none
          else
            bif (o_1.fKind == 3) then
              (spec_ThingOf t_0 o_1.fThing.fId).bind fun r7 =>
              bif r7.2 then
                (spec_l21Grown r7.1 o_1.fThing).bind fun r8 =>
                bif (!r8) then
                  some ((⟨(⟨#[]⟩ : ByteArray), (0 : Int), [], (0 : Int), (⟨#[]⟩ : ByteArray), (0 : Int)⟩ : SBook), false)
                else
                  bif (!r7.2) then
                    bif (o_1.fThing.fId != (w64 (t_0.fLast + 1))) then
                      some ((⟨(⟨#[]⟩ : ByteArray), (0 : Int), [], (0 : Int), (⟨#[]⟩ : ByteArray), (0 : Int)⟩ : SBook), false)
                    else
                      bif ((t_0.fThings.length : Int) == 8) then
                        some ((⟨(⟨#[]⟩ : ByteArray), (0 : Int), [], (0 : Int), (⟨#[]⟩ : ByteArray), (0 : Int)⟩ : SBook), false)
                      else
                        bif (!r7.2) then
                          (spec_l21Put t_0.fThings o_1.fThing).bind fun r9 =>
                          bif (decide ((t_0.fChain.size + r0.1.size) ≤ 9223372036854775807)) then
                          (spec_DigestOf (t_0.fChain ++ r0.1)).bind fun r10 =>
                          (spec_BookOk (⟨r2.fWord, r2.fTries, r9, o_1.fThing.fId, r10, (w64 (t_0.fCount + 1))⟩ : SBook)).bind fun r11 =>
                          bif (!r11) then
                            some ((⟨(⟨#[]⟩ : ByteArray), (0 : Int), [], (0 : Int), (⟨#[]⟩ : ByteArray), (0 : Int)⟩ : SBook), false)
                          else
                            some ((⟨r2.fWord, r2.fTries, r9, o_1.fThing.fId, r10, (w64 (t_0.fCount + 1))⟩ : SBook), true)
                          else none
                        else
                          (spec_l21Put t_0.fThings o_1.fThing).bind fun r12 =>
                          bif (decide ((t_0.fChain.size + r0.1.size) ≤ 9223372036854775807)) then
                          (spec_DigestOf (t_0.fChain ++ r0.1)).bind fun r13 =>
                          (spec_BookOk (⟨r2.fWord, r2.fTries, r12, r2.fLast, r13, (w64 (t_0.fCount + 1))⟩ : SBook)).bind fun r14 =>
                          bif (!r14) then
                            some ((⟨(⟨#[]⟩ : ByteArray), (0 : Int), [], (0 : Int), (⟨#[]⟩ : ByteArray), (0 : Int)⟩ : SBook), false)
                          else
                            some ((⟨r2.fWord, r2.fTries, r12, r2.fLast, r13, (w64 (t_0.fCount + 1))⟩ : SBook), true)
                          else none
                  else
                    bif (!r7.2) then
                      (spec_l21Put t_0.fThings o_1.fThing).bind fun r15 =>
                      bif (decide ((t_0.fChain.size + r0.1.size) ≤ 9223372036854775807)) then
                      (spec_DigestOf (t_0.fChain ++ r0.1)).bind fun r16 =>
                      (spec_BookOk (⟨r2.fWord, r2.fTries, r15, o_1.fThing.fId, r16, (w64 (t_0.fCount + 1))⟩ : SBook)).bind fun r17 =>
                      bif (!r17) then
                        some ((⟨(⟨#[]⟩ : ByteArray), (0 : Int), [], (0 : Int), (⟨#[]⟩ : ByteArray), (0 : Int)⟩ : SBook), false)
                      else
                        some ((⟨r2.fWord, r2.fTries, r15, o_1.fThing.fId, r16, (w64 (t_0.fCount + 1))⟩ : SBook), true)
                      else none
                    else
                      (spec_l21Put t_0.fThings o_1.fThing).bind fun r18 =>
                      bif (decide ((t_0.fChain.size + r0.1.size) ≤ 9223372036854775807)) then
                      (spec_DigestOf (t_0.fChain ++ r0.1)).bind fun r19 =>
                      (spec_BookOk (⟨r2.fWord, r2.fTries, r18, r2.fLast, r19, (w64 (t_0.fCount + 1))⟩ : SBook)).bind fun r20 =>
                      bif (!r20) then
                        some ((⟨(⟨#[]⟩ : ByteArray), (0 : Int), [], (0 : Int), (⟨#[]⟩ : ByteArray), (0 : Int)⟩ : SBook), false)
                      else
                        some ((⟨r2.fWord, r2.fTries, r18, r2.fLast, r19, (w64 (t_0.fCount + 1))⟩ : SBook), true)
                      else none
              else
                bif (!r7.2) then
                  bif (o_1.fThing.fId != (w64 (t_0.fLast + 1))) then
                    some ((⟨(⟨#[]⟩ : ByteArray), (0 : Int), [], (0 : Int), (⟨#[]⟩ : ByteArray), (0 : Int)⟩ : SBook), false)
                  else
                    bif ((t_0.fThings.length : Int) == 8) then
                      some ((⟨(⟨#[]⟩ : ByteArray), (0 : Int), [], (0 : Int), (⟨#[]⟩ : ByteArray), (0 : Int)⟩ : SBook), false)
                    else
                      bif (!r7.2) then
                        (spec_l21Put t_0.fThings o_1.fThing).bind fun r21 =>
                        bif (decide ((t_0.fChain.size + r0.1.size) ≤ 9223372036854775807)) then
                        (spec_DigestOf (t_0.fChain ++ r0.1)).bind fun r22 =>
                        (spec_BookOk (⟨r2.fWord, r2.fTries, r21, o_1.fThing.fId, r22, (w64 (t_0.fCount + 1))⟩ : SBook)).bind fun r23 =>
                        bif (!r23) then
                          some ((⟨(⟨#[]⟩ : ByteArray), (0 : Int), [], (0 : Int), (⟨#[]⟩ : ByteArray), (0 : Int)⟩ : SBook), false)
                        else
                          some ((⟨r2.fWord, r2.fTries, r21, o_1.fThing.fId, r22, (w64 (t_0.fCount + 1))⟩ : SBook), true)
                        else none
                      else
                        (spec_l21Put t_0.fThings o_1.fThing).bind fun r24 =>
                        bif (decide ((t_0.fChain.size + r0.1.size) ≤ 9223372036854775807)) then
                        (spec_DigestOf (t_0.fChain ++ r0.1)).bind fun r25 =>
                        (spec_BookOk (⟨r2.fWord, r2.fTries, r24, r2.fLast, r25, (w64 (t_0.fCount + 1))⟩ : SBook)).bind fun r26 =>
                        bif (!r26) then
                          some ((⟨(⟨#[]⟩ : ByteArray), (0 : Int), [], (0 : Int), (⟨#[]⟩ : ByteArray), (0 : Int)⟩ : SBook), false)
                        else
                          some ((⟨r2.fWord, r2.fTries, r24, r2.fLast, r25, (w64 (t_0.fCount + 1))⟩ : SBook), true)
                        else none
                else
                  bif (!r7.2) then
                    (spec_l21Put t_0.fThings o_1.fThing).bind fun r27 =>
                    bif (decide ((t_0.fChain.size + r0.1.size) ≤ 9223372036854775807)) then
                    (spec_DigestOf (t_0.fChain ++ r0.1)).bind fun r28 =>
                    (spec_BookOk (⟨r2.fWord, r2.fTries, r27, o_1.fThing.fId, r28, (w64 (t_0.fCount + 1))⟩ : SBook)).bind fun r29 =>
                    bif (!r29) then
                      some ((⟨(⟨#[]⟩ : ByteArray), (0 : Int), [], (0 : Int), (⟨#[]⟩ : ByteArray), (0 : Int)⟩ : SBook), false)
                    else
                      some ((⟨r2.fWord, r2.fTries, r27, o_1.fThing.fId, r28, (w64 (t_0.fCount + 1))⟩ : SBook), true)
                    else none
                  else
                    (spec_l21Put t_0.fThings o_1.fThing).bind fun r30 =>
                    bif (decide ((t_0.fChain.size + r0.1.size) ≤ 9223372036854775807)) then
                    (spec_DigestOf (t_0.fChain ++ r0.1)).bind fun r31 =>
                    (spec_BookOk (⟨r2.fWord, r2.fTries, r30, r2.fLast, r31, (w64 (t_0.fCount + 1))⟩ : SBook)).bind fun r32 =>
                    bif (!r32) then
                      some ((⟨(⟨#[]⟩ : ByteArray), (0 : Int), [], (0 : Int), (⟨#[]⟩ : ByteArray), (0 : Int)⟩ : SBook), false)
                    else
                      some ((⟨r2.fWord, r2.fTries, r30, r2.fLast, r31, (w64 (t_0.fCount + 1))⟩ : SBook), true)
                    else none
            else
              bif (o_1.fKind == 4) then
                (spec_ThingOf t_0 o_1.fNum).bind fun r33 =>
                bif (!r33.2) then
                  some ((⟨(⟨#[]⟩ : ByteArray), (0 : Int), [], (0 : Int), (⟨#[]⟩ : ByteArray), (0 : Int)⟩ : SBook), false)
                else
                  k (.c0 r0.1 (0 : Int) t_0 o_1 (⟨#[]⟩ : ByteArray) (0 : Int) (0 : Int) (⟨#[]⟩ : ByteArray) (0 : Int) r2.fWord r2.fTries r2.fLast r2.fChain r2.fCount [] [] r2.fThings)
              else
                bif (decide ((t_0.fChain.size + r0.1.size) ≤ 9223372036854775807)) then
                (spec_DigestOf (t_0.fChain ++ r0.1)).bind fun r34 =>
                (spec_BookOk (⟨r2.fWord, r2.fTries, r2.fThings, r2.fLast, r34, (w64 (t_0.fCount + 1))⟩ : SBook)).bind fun r35 =>
                bif (!r35) then
                  some ((⟨(⟨#[]⟩ : ByteArray), (0 : Int), [], (0 : Int), (⟨#[]⟩ : ByteArray), (0 : Int)⟩ : SBook), false)
                else
                  some ((⟨r2.fWord, r2.fTries, r2.fThings, r2.fLast, r34, (w64 (t_0.fCount + 1))⟩ : SBook), true)
                else none
noncomputable def B_spec_Enter (spec_RecText : SRec → Option (ByteArray × Bool)) (spec_BookOk : SBook → Option Bool) (spec_l21Copy : SBook → Option SBook) (spec_ThingOf : SBook → Int → Option (SThing × Bool)) (spec_l21Grown : SThing → SThing → Option Bool) (spec_l21Put : (List SThing) → SThing → Option (List SThing)) (spec_DigestOf : ByteArray → Option ByteArray) (k : St_spec_Enter → Option (SBook × Bool)) : St_spec_Enter → Option (SBook × Bool)
  | .c0 y_6 v_14 A_2 r_3 r_4c0 r_4c1 r_4c3 r_4c4 r_4c5 v_8c0 v_8c1 v_8c3 v_8c4 v_8c5 v_13 r_4r2 v_8r2 =>
    bif (decide (v_14 < (A_2.fThings.length : Int))) then
      bif ((decide (0 ≤ v_14)) && (decide (v_14 < (A_2.fThings.length : Int)))) then
      bif ((A_2.fThings.getD v_14.toNat (⟨(0 : Int), (0 : Int), false, false, false, false, (⟨#[]⟩ : ByteArray), (0 : Int)⟩ : SThing)).fId != r_3.fNum) then
        bif ((decide (0 ≤ v_14)) && (decide (v_14 < (A_2.fThings.length : Int)))) then
        bif (decide (((v_13.length + 1) * 48) ≤ 140737488355328)) then
        k (.c0 y_6 (w64 (v_14 + 1)) A_2 r_3 r_4c0 r_4c1 r_4c3 r_4c4 r_4c5 v_8c0 v_8c1 v_8c3 v_8c4 v_8c5 (v_13 ++ [(A_2.fThings.getD v_14.toNat (⟨(0 : Int), (0 : Int), false, false, false, false, (⟨#[]⟩ : ByteArray), (0 : Int)⟩ : SThing))]) r_4r2 v_8r2)
        else none
        else none
      else
        k (.c0 y_6 (w64 (v_14 + 1)) A_2 r_3 r_4c0 r_4c1 r_4c3 r_4c4 r_4c5 v_8c0 v_8c1 v_8c3 v_8c4 v_8c5 v_13 r_4r2 v_8r2)
      else none
    else
      bif (decide ((A_2.fChain.size + y_6.size) ≤ 9223372036854775807)) then
      (spec_DigestOf (A_2.fChain ++ y_6)).bind fun r0 =>
      (spec_BookOk (⟨v_8c0, v_8c1, v_13, v_8c3, r0, (w64 (A_2.fCount + 1))⟩ : SBook)).bind fun r1 =>
      bif (!r1) then
        some ((⟨(⟨#[]⟩ : ByteArray), (0 : Int), [], (0 : Int), (⟨#[]⟩ : ByteArray), (0 : Int)⟩ : SBook), false)
      else
        some ((⟨v_8c0, v_8c1, v_13, v_8c3, r0, (w64 (A_2.fCount + 1))⟩ : SBook), true)
      else none
noncomputable def L_spec_Enter : Nat → St_spec_Enter → Option (SBook × Bool)
  | 0, _ => none
  | m + 1, s => B_spec_Enter spec_RecText spec_BookOk spec_l21Copy spec_ThingOf spec_l21Grown spec_l21Put spec_DigestOf (L_spec_Enter m) s
noncomputable def spec_Enter (t_0 : SBook) (o_1 : SRec) : Option (SBook × Bool) := E_spec_Enter spec_RecText spec_BookOk spec_l21Copy spec_ThingOf spec_l21Grown spec_l21Put spec_DigestOf (L_spec_Enter gas) t_0 o_1
theorem e_spec_Enter (spec_RecText : SRec → Option (ByteArray × Bool)) (spec_BookOk : SBook → Option Bool) (spec_l21Copy : SBook → Option SBook) (spec_ThingOf : SBook → Int → Option (SThing × Bool)) (spec_l21Grown : SThing → SThing → Option Bool) (spec_l21Put : (List SThing) → SThing → Option (List SThing)) (spec_DigestOf : ByteArray → Option ByteArray) : EntryIs ctx PP 107 [] [(151, H_spec_RecText spec_RecText), (62, H_spec_BookOk spec_BookOk), (106, H_spec_l21Copy spec_l21Copy), (123, H_spec_ThingOf spec_ThingOf), (155, H_spec_l21Grown spec_l21Grown), (156, H_spec_l21Put spec_l21Put), (108, H_spec_DigestOf spec_DigestOf)] cv49 cv50 at_spec_Enter (fun k a => E_spec_Enter spec_RecText spec_BookOk spec_l21Copy spec_ThingOf spec_l21Grown spec_l21Put spec_DigestOf k a.1 a.2) := fun stop a => by kernel_rfl
theorem b_spec_Enter (spec_RecText : SRec → Option (ByteArray × Bool)) (spec_BookOk : SBook → Option Bool) (spec_l21Copy : SBook → Option SBook) (spec_ThingOf : SBook → Int → Option (SThing × Bool)) (spec_l21Grown : SThing → SThing → Option Bool) (spec_l21Put : (List SThing) → SThing → Option (List SThing)) (spec_DigestOf : ByteArray → Option ByteArray) : CutIs ctx PP 107 Tryz.f107 [] [(151, H_spec_RecText spec_RecText), (62, H_spec_BookOk spec_BookOk), (106, H_spec_l21Copy spec_l21Copy), (123, H_spec_ThingOf spec_ThingOf), (155, H_spec_l21Grown spec_l21Grown), (156, H_spec_l21Put spec_l21Put), (108, H_spec_DigestOf spec_DigestOf)] cv50 at_spec_Enter (B_spec_Enter spec_RecText spec_BookOk spec_l21Copy spec_ThingOf spec_l21Grown spec_l21Put spec_DigestOf) := fun stop s => by cases s <;> kernel_rfl
theorem i_spec_Enter : ∀ s s', at_spec_Enter s = at_spec_Enter s' → s = s' := by
  intro s s' h
  cases s with
  | c0 v0 v1 v2 v3 v4 v5 v6 v7 v8 v9 v10 v11 v12 v13 v14 v15 v16 => cases s' with
    | c0 w0 w1 w2 w3 w4 w5 w6 w7 w8 w9 w10 w11 w12 w13 w14 w15 w16 => obtain ⟨_, _, _, _, _, _⟩ := v2; obtain ⟨_, _, _, _, _, _⟩ := w2; obtain ⟨_, _, _, ⟨_, _, _, _, _, _, _, _⟩⟩ := v3; obtain ⟨_, _, _, ⟨_, _, _, _, _, _, _, _⟩⟩ := w3; cases h; rfl
theorem ok_spec_Enter : Tells ctx PP 107 cv49 cv50 (fun a => spec_Enter a.1 a.2) := fn_ok (hl_cons h_spec_RecText (hl_cons h_spec_BookOk (hl_cons h_spec_l21Copy (hl_cons h_spec_ThingOf (hl_cons h_spec_l21Grown (hl_cons h_spec_l21Put (hl_cons h_spec_DigestOf hl_nil))))))) Tryz.func107 i_spec_Enter (fun _ => rfl) (fun _ _ => rfl) (b_spec_Enter spec_RecText spec_BookOk spec_l21Copy spec_ThingOf spec_l21Grown spec_l21Put spec_DigestOf) (e_spec_Enter spec_RecText spec_BookOk spec_l21Copy spec_ThingOf spec_l21Grown spec_l21Put spec_DigestOf) gas
noncomputable def H_spec_Enter {γ : Type} (F : SBook → SRec → Option (SBook × Bool)) : Hd ctx γ := hdl cv49.dec (fun a => F a.1 a.2) cv50.enc
theorem h_spec_Enter {γ : Type} : HdOk (γ := γ) PP 107 (H_spec_Enter spec_Enter) := hd_ok ok_spec_Enter
noncomputable def todo_spec_EnterAll_0 : List Go.Item := [.code (cAt (bodyOf Tryz.f40) [1, 1, 0, 1, 0, 0, 0, 0]), .code (cAt (bodyOf Tryz.f40) [1, 1, 0, 1, 0, 0, 0, 1]), .code (cAt (bodyOf Tryz.f40) [1, 1, 0, 1, 0, 0, 1]), .inLoop (cAt (bodyOf Tryz.f40) [1, 1, 0, 1, 0, 0]), .inBlock 0, .code (cAt (bodyOf Tryz.f40) [1, 1, 1])]
inductive St_spec_EnterAll where
  | c0 (list_1 : (List SRec)) (i_7 : Int) (v_4c0 : ByteArray) (v_4c1 : Int) (v_4c3 : Int) (v_4c4 : ByteArray) (v_4c5 : Int) (out_6c0 : ByteArray) (out_6c1 : Int) (out_6c3 : Int) (out_6c4 : ByteArray) (out_6c5 : Int) (v_4r2 : (List SThing)) (out_6r2 : (List SThing))
noncomputable def at_spec_EnterAll : St_spec_EnterAll → LI
  | .c0 list_1 i_7 v_4c0 v_4c1 v_4c3 v_4c4 v_4c5 out_6c0 out_6c1 out_6c3 out_6c4 out_6c5 v_4r2 out_6r2 => (todo_spec_EnterAll_0, [(1, [.one (.rsl 140 list_1)]), (4, [.one (.ptr 256 0)]), (6, [.one (.ptr 384 0)]), (7, [.one (.int .i64 i_7)])], [(256, .var [.str v_4c0, .int .i64 v_4c1, .own 1016386, .int .i64 v_4c3, .str v_4c4, .int .i64 v_4c5]), (384, .var [.str out_6c0, .int .i64 out_6c1, .own 1024578, .int .i64 out_6c3, .str out_6c4, .int .i64 out_6c5]), (1016386, .sl 138 v_4r2), (1024578, .sl 138 out_6r2)])
noncomputable def E_spec_EnterAll (spec_l21Copy : SBook → Option SBook) (spec_Enter : SBook → SRec → Option (SBook × Bool)) (k : St_spec_EnterAll → Option (SBook × Bool)) (b_0 : SBook) (list_1 : (List SRec)) : Option (SBook × Bool) :=
  (spec_l21Copy b_0).bind fun r0 =>
  k (.c0 list_1 (0 : Int) (⟨#[]⟩ : ByteArray) (0 : Int) (0 : Int) (⟨#[]⟩ : ByteArray) (0 : Int) r0.fWord r0.fTries r0.fLast r0.fChain r0.fCount [] r0.fThings)
noncomputable def B_spec_EnterAll (spec_l21Copy : SBook → Option SBook) (spec_Enter : SBook → SRec → Option (SBook × Bool)) (k : St_spec_EnterAll → Option (SBook × Bool)) : St_spec_EnterAll → Option (SBook × Bool)
  | .c0 list_1 i_7 v_4c0 v_4c1 v_4c3 v_4c4 v_4c5 out_6c0 out_6c1 out_6c3 out_6c4 out_6c5 v_4r2 out_6r2 =>
    bif (decide (i_7 < (list_1.length : Int))) then
      bif ((decide (0 ≤ i_7)) && (decide (i_7 < (list_1.length : Int)))) then
      (spec_Enter (⟨out_6c0, out_6c1, out_6r2, out_6c3, out_6c4, out_6c5⟩ : SBook) (list_1.getD i_7.toNat (⟨(0 : Int), (⟨#[]⟩ : ByteArray), (0 : Int), (⟨(0 : Int), (0 : Int), false, false, false, false, (⟨#[]⟩ : ByteArray), (0 : Int)⟩ : SThing)⟩ : SRec))).bind fun r0 =>
      bif (!r0.2) then
        some ((⟨(⟨#[]⟩ : ByteArray), (0 : Int), [], (0 : Int), (⟨#[]⟩ : ByteArray), (0 : Int)⟩ : SBook), false)
      else
        k (.c0 list_1 (w64 (i_7 + 1)) v_4c0 v_4c1 v_4c3 v_4c4 v_4c5 r0.1.fWord r0.1.fTries r0.1.fLast r0.1.fChain r0.1.fCount v_4r2 r0.1.fThings)
      else none
    else
      some ((⟨out_6c0, out_6c1, out_6r2, out_6c3, out_6c4, out_6c5⟩ : SBook), true)
noncomputable def L_spec_EnterAll : Nat → St_spec_EnterAll → Option (SBook × Bool)
  | 0, _ => none
  | m + 1, s => B_spec_EnterAll spec_l21Copy spec_Enter (L_spec_EnterAll m) s
noncomputable def spec_EnterAll (b_0 : SBook) (list_1 : (List SRec)) : Option (SBook × Bool) := E_spec_EnterAll spec_l21Copy spec_Enter (L_spec_EnterAll gas) b_0 list_1
theorem e_spec_EnterAll (spec_l21Copy : SBook → Option SBook) (spec_Enter : SBook → SRec → Option (SBook × Bool)) : EntryIs ctx PP 40 [] [(106, H_spec_l21Copy spec_l21Copy), (107, H_spec_Enter spec_Enter)] cv51 cv50 at_spec_EnterAll (fun k a => E_spec_EnterAll spec_l21Copy spec_Enter k a.1 a.2) := fun stop a => by kernel_rfl
theorem b_spec_EnterAll (spec_l21Copy : SBook → Option SBook) (spec_Enter : SBook → SRec → Option (SBook × Bool)) : CutIs ctx PP 40 Tryz.f40 [] [(106, H_spec_l21Copy spec_l21Copy), (107, H_spec_Enter spec_Enter)] cv50 at_spec_EnterAll (B_spec_EnterAll spec_l21Copy spec_Enter) := fun stop s => by cases s <;> kernel_rfl
theorem i_spec_EnterAll : ∀ s s', at_spec_EnterAll s = at_spec_EnterAll s' → s = s' := by
  intro s s' h
  cases s with
  | c0 v0 v1 v2 v3 v4 v5 v6 v7 v8 v9 v10 v11 v12 v13 => cases s' with
    | c0 w0 w1 w2 w3 w4 w5 w6 w7 w8 w9 w10 w11 w12 w13 => cases h; rfl
theorem ok_spec_EnterAll : Tells ctx PP 40 cv51 cv50 (fun a => spec_EnterAll a.1 a.2) := fn_ok (hl_cons h_spec_l21Copy (hl_cons h_spec_Enter hl_nil)) Tryz.func40 i_spec_EnterAll (fun _ => rfl) (fun _ _ => rfl) (b_spec_EnterAll spec_l21Copy spec_Enter) (e_spec_EnterAll spec_l21Copy spec_Enter) gas
noncomputable def H_spec_EnterAll {γ : Type} (F : SBook → (List SRec) → Option (SBook × Bool)) : Hd ctx γ := hdl cv51.dec (fun a => F a.1 a.2) cv50.enc
theorem h_spec_EnterAll {γ : Type} : HdOk (γ := γ) PP 40 (H_spec_EnterAll spec_EnterAll) := hd_ok ok_spec_EnterAll
noncomputable def E_spec_Mount (spec_DiskOk : SDisk → Option Bool) (spec_FileAt : SDisk → ByteArray → Option (ByteArray × Bool)) (spec_ReadBook : ByteArray → ByteArray → Option ((List SRec) × Int)) (spec_BookNew : Option SBook) (spec_EnterAll : SBook → (List SRec) → Option (SBook × Bool)) (spec_l03At : SDisk → ByteArray → Option Int) (key_0 : ByteArray) (d_1 : SDisk) : Option (SBook × (List SAct) × Bool) :=
  (spec_DiskOk d_1).bind fun r0 =>
  bif (!r0) then
    some ((⟨(⟨#[]⟩ : ByteArray), (0 : Int), [], (0 : Int), (⟨#[]⟩ : ByteArray), (0 : Int)⟩ : SBook), ([], false))
  else
    (spec_FileAt d_1 (⟨#[98, 111, 111, 107]⟩ : ByteArray)).bind fun r1 =>
    (spec_ReadBook key_0 r1.1).bind fun r2 =>
    spec_BookNew.bind fun r3 =>
    (spec_EnterAll r3 r2.1).bind fun r4 =>
    bif (!r4.2) then
      some ((⟨(⟨#[]⟩ : ByteArray), (0 : Int), [], (0 : Int), (⟨#[]⟩ : ByteArray), (0 : Int)⟩ : SBook), ([], false))
    else
      (spec_l03At d_1 (⟨#[98, 111, 111, 107, 43]⟩ : ByteArray)).bind fun r5 =>
      bif (decide (r5 ≥ 0)) then
        bif (decide (r2.2 < (r1.1.size : Int))) then
          bif ((decide (0 ≤ r2.2)) && (decide (r2.2 ≤ (r1.1.size : Int)))) then
          some (r4.1, ((([] ++ [(⟨(4 : Int), (⟨#[98, 111, 111, 107, 43]⟩ : ByteArray), (⟨#[]⟩ : ByteArray), (⟨#[]⟩ : ByteArray)⟩ : SAct)]) ++ [(⟨(1 : Int), (⟨#[98, 111, 111, 107, 43]⟩ : ByteArray), (r1.1.extract 0 r2.2.toNat), (⟨#[]⟩ : ByteArray)⟩ : SAct), (⟨(2 : Int), (⟨#[98, 111, 111, 107, 43]⟩ : ByteArray), (⟨#[]⟩ : ByteArray), (⟨#[]⟩ : ByteArray)⟩ : SAct), (⟨(3 : Int), (⟨#[98, 111, 111, 107, 43]⟩ : ByteArray), (⟨#[]⟩ : ByteArray), (⟨#[98, 111, 111, 107]⟩ : ByteArray)⟩ : SAct)]), true))
          else none
        else
          some (r4.1, (([] ++ [(⟨(4 : Int), (⟨#[98, 111, 111, 107, 43]⟩ : ByteArray), (⟨#[]⟩ : ByteArray), (⟨#[]⟩ : ByteArray)⟩ : SAct)]), true))
      else
        bif (decide (r2.2 < (r1.1.size : Int))) then
          bif ((decide (0 ≤ r2.2)) && (decide (r2.2 ≤ (r1.1.size : Int)))) then
          some (r4.1, (([] ++ [(⟨(1 : Int), (⟨#[98, 111, 111, 107, 43]⟩ : ByteArray), (r1.1.extract 0 r2.2.toNat), (⟨#[]⟩ : ByteArray)⟩ : SAct), (⟨(2 : Int), (⟨#[98, 111, 111, 107, 43]⟩ : ByteArray), (⟨#[]⟩ : ByteArray), (⟨#[]⟩ : ByteArray)⟩ : SAct), (⟨(3 : Int), (⟨#[98, 111, 111, 107, 43]⟩ : ByteArray), (⟨#[]⟩ : ByteArray), (⟨#[98, 111, 111, 107]⟩ : ByteArray)⟩ : SAct)]), true))
          else none
        else
          some (r4.1, ([], true))
noncomputable def spec_Mount (key_0 : ByteArray) (d_1 : SDisk) : Option (SBook × (List SAct) × Bool) := E_spec_Mount spec_DiskOk spec_FileAt spec_ReadBook spec_BookNew spec_EnterAll spec_l03At key_0 d_1
theorem e_spec_Mount (spec_DiskOk : SDisk → Option Bool) (spec_FileAt : SDisk → ByteArray → Option (ByteArray × Bool)) (spec_ReadBook : ByteArray → ByteArray → Option ((List SRec) × Int)) (spec_BookNew : Option SBook) (spec_EnterAll : SBook → (List SRec) → Option (SBook × Bool)) (spec_l03At : SDisk → ByteArray → Option Int) : EntryIs0 ctx PP 9 [] [(37, H_spec_DiskOk spec_DiskOk), (38, H_spec_FileAt spec_FileAt), (39, H_spec_ReadBook spec_ReadBook), (41, H_spec_BookNew spec_BookNew), (40, H_spec_EnterAll spec_EnterAll), (42, H_spec_l03At spec_l03At)] cv52 cv53 (fun a => E_spec_Mount spec_DiskOk spec_FileAt spec_ReadBook spec_BookNew spec_EnterAll spec_l03At a.1 a.2) := fun a => by kernel_rfl
theorem ok_spec_Mount : Tells ctx PP 9 cv52 cv53 (fun a => spec_Mount a.1 a.2) := fn_ok0 (hl_cons h_spec_DiskOk (hl_cons h_spec_FileAt (hl_cons h_spec_ReadBook (hl_cons h_spec_BookNew (hl_cons h_spec_EnterAll (hl_cons h_spec_l03At hl_nil)))))) Tryz.func9 (e_spec_Mount spec_DiskOk spec_FileAt spec_ReadBook spec_BookNew spec_EnterAll spec_l03At)
noncomputable def H_spec_Mount {γ : Type} (F : ByteArray → SDisk → Option (SBook × (List SAct) × Bool)) : Hd ctx γ := hdl cv52.dec (fun a => F a.1 a.2) cv53.enc
theorem h_spec_Mount {γ : Type} : HdOk (γ := γ) PP 9 (H_spec_Mount spec_Mount) := hd_ok ok_spec_Mount
noncomputable def todo_impl_fileAt_0 : List Go.Item := [.code (cAt (bodyOf Tryz.f49) [1, 0, 1, 0, 0, 0]), .code (cAt (bodyOf Tryz.f49) [1, 0, 1, 0, 0, 1]), .inLoop (cAt (bodyOf Tryz.f49) [1, 0, 1, 0, 0]), .inBlock 0, .code (cAt (bodyOf Tryz.f49) [1, 1])]
inductive St_impl_fileAt where
  | c0 (name_1 : ByteArray) (v_8 : (List SFile)) (v_9 : Int) (v_10 : Int)
noncomputable def at_impl_fileAt : St_impl_fileAt → LI
  | .c0 name_1 v_8 v_9 v_10 => (todo_impl_fileAt_0, [(1, [.one (.str name_1)]), (8, [.one (.rsl 132 v_8)]), (9, [.one (.int .i64 v_9)]), (10, [.one (.int .i64 v_10)])], [])
noncomputable def E_impl_fileAt  (k : St_impl_fileAt → Option Int) (d_0 : SDisk) (name_1 : ByteArray) : Option Int :=
  k (.c0 name_1 d_0.fFiles (d_0.fFiles.length : Int) (0 : Int))
noncomputable def B_impl_fileAt  (k : St_impl_fileAt → Option Int) : St_impl_fileAt → Option Int
  | .c0 name_1 v_8 v_9 v_10 =>
    bif (decide (v_10 < v_9)) then
      bif ((decide (0 ≤ v_10)) && (decide (v_10 < (v_8.length : Int)))) then
      bif ((ByteArray.toList (v_8.getD v_10.toNat (⟨(⟨#[]⟩ : ByteArray), (⟨#[]⟩ : ByteArray), (0 : Int)⟩ : SFile)).fName) == (ByteArray.toList name_1)) then
        some v_10
      else
        k (.c0 name_1 v_8 v_9 (w64 (v_10 + 1)))
      else none
    else
      some (-(1 : Int))
noncomputable def L_impl_fileAt : Nat → St_impl_fileAt → Option Int
  | 0, _ => none
  | m + 1, s => B_impl_fileAt  (L_impl_fileAt m) s
noncomputable def impl_fileAt (d_0 : SDisk) (name_1 : ByteArray) : Option Int := E_impl_fileAt  (L_impl_fileAt gas) d_0 name_1
theorem e_impl_fileAt  : EntryIs ctx PP 49 [] [] cv13 cv1 at_impl_fileAt (fun k a => E_impl_fileAt  k a.1 a.2) := fun stop a => by kernel_rfl
theorem b_impl_fileAt  : CutIs ctx PP 49 Tryz.f49 [] [] cv1 at_impl_fileAt (B_impl_fileAt ) := fun stop s => by cases s <;> kernel_rfl
theorem i_impl_fileAt : ∀ s s', at_impl_fileAt s = at_impl_fileAt s' → s = s' := by
  intro s s' h
  cases s with
  | c0 v0 v1 v2 v3 => cases s' with
    | c0 w0 w1 w2 w3 => cases h; rfl
theorem ok_impl_fileAt : Tells ctx PP 49 cv13 cv1 (fun a => impl_fileAt a.1 a.2) := fn_ok hl_nil Tryz.func49 i_impl_fileAt (fun _ => rfl) (fun _ _ => rfl) (b_impl_fileAt ) (e_impl_fileAt ) gas
noncomputable def H_impl_fileAt {γ : Type} (F : SDisk → ByteArray → Option Int) : Hd ctx γ := hdl cv13.dec (fun a => F a.1 a.2) cv1.enc
theorem h_impl_fileAt {γ : Type} : HdOk (γ := γ) PP 49 (H_impl_fileAt impl_fileAt) := hd_ok ok_impl_fileAt
noncomputable def E_impl_FileAt (impl_fileAt : SDisk → ByteArray → Option Int) (d_0 : SDisk) (name_1 : ByteArray) : Option (ByteArray × Bool) :=
  (impl_fileAt d_0 name_1).bind fun r0 =>
  bif (decide (r0 < 0)) then
    some ((⟨#[]⟩ : ByteArray), false)
  else
    bif ((decide (0 ≤ r0)) && (decide (r0 < (d_0.fFiles.length : Int)))) then
    some ((d_0.fFiles.getD r0.toNat (⟨(⟨#[]⟩ : ByteArray), (⟨#[]⟩ : ByteArray), (0 : Int)⟩ : SFile)).fText, true)
    else none
noncomputable def impl_FileAt (d_0 : SDisk) (name_1 : ByteArray) : Option (ByteArray × Bool) := E_impl_FileAt impl_fileAt d_0 name_1
theorem e_impl_FileAt (impl_fileAt : SDisk → ByteArray → Option Int) : EntryIs0 ctx PP 44 [] [(49, H_impl_fileAt impl_fileAt)] cv13 cv14 (fun a => E_impl_FileAt impl_fileAt a.1 a.2) := fun a => by kernel_rfl
theorem ok_impl_FileAt : Tells ctx PP 44 cv13 cv14 (fun a => impl_FileAt a.1 a.2) := fn_ok0 (hl_cons h_impl_fileAt hl_nil) Tryz.func44 (e_impl_FileAt impl_fileAt)
noncomputable def H_impl_FileAt {γ : Type} (F : SDisk → ByteArray → Option (ByteArray × Bool)) : Hd ctx γ := hdl cv13.dec (fun a => F a.1 a.2) cv14.enc
theorem h_impl_FileAt {γ : Type} : HdOk (γ := γ) PP 44 (H_impl_FileAt impl_FileAt) := hd_ok ok_impl_FileAt
noncomputable def E_impl_in  (n_0 : Int) (low_1 : Int) (high_2 : Int) : Option Bool :=
  bif (decide (n_0 ≥ low_1)) then
    some (decide (n_0 ≤ high_2))
  else
    some false
noncomputable def impl_in (n_0 : Int) (low_1 : Int) (high_2 : Int) : Option Bool := E_impl_in  n_0 low_1 high_2
theorem e_impl_in  : EntryIs0 ctx PP 67 [] [] cv9 cv10 (fun a => E_impl_in  a.1 a.2.1 a.2.2) := fun a => by kernel_rfl
theorem ok_impl_in : Tells ctx PP 67 cv9 cv10 (fun a => impl_in a.1 a.2.1 a.2.2) := fn_ok0 hl_nil Tryz.func67 (e_impl_in )
noncomputable def H_impl_in {γ : Type} (F : Int → Int → Int → Option Bool) : Hd ctx γ := hdl cv9.dec (fun a => F a.1 a.2.1 a.2.2) cv10.enc
theorem h_impl_in {γ : Type} : HdOk (γ := γ) PP 67 (H_impl_in impl_in) := hd_ok ok_impl_in
noncomputable def todo_impl_ReadVar_0 : List Go.Item := [.code (cAt (bodyOf Tryz.f160) [1, 1, 1, 0, 1, 0, 0, 0, 0]), .code (cAt (bodyOf Tryz.f160) [1, 1, 1, 0, 1, 0, 0, 0, 1]), .code (cAt (bodyOf Tryz.f160) [1, 1, 1, 0, 1, 0, 0, 1]), .inLoop (cAt (bodyOf Tryz.f160) [1, 1, 1, 0, 1, 0, 0]), .inBlock 0, .code (cAt (bodyOf Tryz.f160) [1, 1, 1, 1])]
inductive St_impl_ReadVar where
  | c0 (text_0 : ByteArray) (at_1 : Int) (n_7 : Int) (k_8 : Int)
noncomputable def at_impl_ReadVar : St_impl_ReadVar → LI
  | .c0 text_0 at_1 n_7 k_8 => (todo_impl_ReadVar_0, [(0, [.one (.str text_0)]), (1, [.one (.int .i64 at_1)]), (7, [.one (.int .i64 n_7)]), (8, [.one (.int .i64 k_8)])], [])
noncomputable def E_impl_ReadVar (impl_in : Int → Int → Int → Option Bool) (k : St_impl_ReadVar → Option (Int × Int × Bool)) (text_0 : ByteArray) (at_1 : Int) : Option (Int × Int × Bool) :=
  (impl_in at_1 (0 : Int) (text_0.size : Int)).bind fun r0 =>
  bif (!r0) then
    some ((0 : Int), ((0 : Int), false))
  else
    k (.c0 text_0 at_1 (0 : Int) (0 : Int))
noncomputable def B_impl_ReadVar (impl_in : Int → Int → Int → Option Bool) (k : St_impl_ReadVar → Option (Int × Int × Bool)) : St_impl_ReadVar → Option (Int × Int × Bool)
  | .c0 text_0 at_1 n_7 k_8 =>
    bif (decide (k_8 < 5)) then
      bif (decide ((w64 (at_1 + k_8)) < (text_0.size : Int))) then
        bif ((decide (0 ≤ (w64 (at_1 + k_8)))) && (decide ((w64 (at_1 + k_8)) < (text_0.size : Int)))) then
        bif (decide (0 ≤ (w64 (7 * k_8)))) then
        bif (decide ((w64 (bt text_0 (w64 (at_1 + k_8)))) < 128)) then
          bif ((w64 (bt text_0 (w64 (at_1 + k_8)))) == 0) then
            bif (decide (k_8 > 0)) then
              some ((0 : Int), ((0 : Int), false))
            else
              bif (decide ((w64 (n_7 + (w64 (((w64 (bt text_0 (w64 (at_1 + k_8)))).tmod 128) * (2 ^ (Min.min (w64 (7 * k_8)).toNat (IntKind.bits IntKind.i64))))))) > 1000000000)) then
                some ((0 : Int), ((0 : Int), false))
              else
                some ((w64 (n_7 + (w64 (((w64 (bt text_0 (w64 (at_1 + k_8)))).tmod 128) * (2 ^ (Min.min (w64 (7 * k_8)).toNat (IntKind.bits IntKind.i64))))))), ((w64 ((w64 (at_1 + k_8)) + 1)), true))
          else
            bif (decide ((w64 (n_7 + (w64 (((w64 (bt text_0 (w64 (at_1 + k_8)))).tmod 128) * (2 ^ (Min.min (w64 (7 * k_8)).toNat (IntKind.bits IntKind.i64))))))) > 1000000000)) then
              some ((0 : Int), ((0 : Int), false))
            else
              some ((w64 (n_7 + (w64 (((w64 (bt text_0 (w64 (at_1 + k_8)))).tmod 128) * (2 ^ (Min.min (w64 (7 * k_8)).toNat (IntKind.bits IntKind.i64))))))), ((w64 ((w64 (at_1 + k_8)) + 1)), true))
        else
          k (.c0 text_0 at_1 (w64 (n_7 + (w64 (((w64 (bt text_0 (w64 (at_1 + k_8)))).tmod 128) * (2 ^ (Min.min (w64 (7 * k_8)).toNat (IntKind.bits IntKind.i64))))))) (w64 (k_8 + 1)))
        else none
        else none
      else
        some ((0 : Int), ((0 : Int), false))
    else
      some ((0 : Int), ((0 : Int), false))
noncomputable def L_impl_ReadVar : Nat → St_impl_ReadVar → Option (Int × Int × Bool)
  | 0, _ => none
  | m + 1, s => B_impl_ReadVar impl_in (L_impl_ReadVar m) s
noncomputable def impl_ReadVar (text_0 : ByteArray) (at_1 : Int) : Option (Int × Int × Bool) := E_impl_ReadVar impl_in (L_impl_ReadVar gas) text_0 at_1
theorem e_impl_ReadVar (impl_in : Int → Int → Int → Option Bool) : EntryIs ctx PP 160 [] [(67, H_impl_in impl_in)] cv15 cv16 at_impl_ReadVar (fun k a => E_impl_ReadVar impl_in k a.1 a.2) := fun stop a => by kernel_rfl
theorem b_impl_ReadVar (impl_in : Int → Int → Int → Option Bool) : CutIs ctx PP 160 Tryz.f160 [] [(67, H_impl_in impl_in)] cv16 at_impl_ReadVar (B_impl_ReadVar impl_in) := fun stop s => by cases s <;> kernel_rfl
theorem i_impl_ReadVar : ∀ s s', at_impl_ReadVar s = at_impl_ReadVar s' → s = s' := by
  intro s s' h
  cases s with
  | c0 v0 v1 v2 v3 => cases s' with
    | c0 w0 w1 w2 w3 => cases h; rfl
theorem ok_impl_ReadVar : Tells ctx PP 160 cv15 cv16 (fun a => impl_ReadVar a.1 a.2) := fn_ok (hl_cons h_impl_in hl_nil) Tryz.func160 i_impl_ReadVar (fun _ => rfl) (fun _ _ => rfl) (b_impl_ReadVar impl_in) (e_impl_ReadVar impl_in) gas
noncomputable def H_impl_ReadVar {γ : Type} (F : ByteArray → Int → Option (Int × Int × Bool)) : Hd ctx γ := hdl cv15.dec (fun a => F a.1 a.2) cv16.enc
theorem h_impl_ReadVar {γ : Type} : HdOk (γ := γ) PP 160 (H_impl_ReadVar impl_ReadVar) := hd_ok ok_impl_ReadVar
noncomputable def todo_impl_SumMore_0 : List Go.Item := [.code (cAt (bodyOf Tryz.f192) [1, 0, 1, 0, 0, 0, 0]), .code (cAt (bodyOf Tryz.f192) [1, 0, 1, 0, 0, 0, 1]), .code (cAt (bodyOf Tryz.f192) [1, 0, 1, 0, 0, 1]), .inLoop (cAt (bodyOf Tryz.f192) [1, 0, 1, 0, 0]), .inBlock 0, .code (cAt (bodyOf Tryz.f192) [1, 1])]
noncomputable def todo_impl_SumMore_1 : List Go.Item := [.code (cAt (bodyOf Tryz.f192) [1, 0, 1, 0, 0, 1, 0, 0, 1, 1, 0, 0, 0]), .code (cAt (bodyOf Tryz.f192) [1, 0, 1, 0, 0, 1, 0, 0, 1, 1, 0, 0, 1]), .inLoop (cAt (bodyOf Tryz.f192) [1, 0, 1, 0, 0, 1, 0, 0, 1, 1, 0, 0]), .inBlock 2, .inBlock 1, .code (cAt (bodyOf Tryz.f192) [1, 0, 1, 0, 0, 1, 1]), .inLoop (cAt (bodyOf Tryz.f192) [1, 0, 1, 0, 0]), .inBlock 0, .code (cAt (bodyOf Tryz.f192) [1, 1])]
inductive St_impl_SumMore where
  | c0 (sum_0 : Int) (text_1 : ByteArray) (i_5 : Int)
  | c1 (sum_0 : Int) (text_1 : ByteArray) (i_5 : Int) (v_19 : Int)
noncomputable def at_impl_SumMore : St_impl_SumMore → LI
  | .c0 sum_0 text_1 i_5 => (todo_impl_SumMore_0, [(0, [.one (.int .u32 sum_0)]), (1, [.one (.str text_1)]), (5, [.one (.int .i64 i_5)])], [])
  | .c1 sum_0 text_1 i_5 v_19 => (todo_impl_SumMore_1, [(0, [.one (.int .u32 sum_0)]), (1, [.one (.str text_1)]), (5, [.one (.int .i64 i_5)]), (19, [.one (.int .i64 v_19)])], [])
noncomputable def E_impl_SumMore  (k : St_impl_SumMore → Option Int) (sum_0 : Int) (text_1 : ByteArray) : Option Int :=
  k (.c0 sum_0 text_1 (0 : Int))
noncomputable def B_impl_SumMore  (k : St_impl_SumMore → Option Int) : St_impl_SumMore → Option Int
  | .c0 sum_0 text_1 i_5 =>
    bif (decide (i_5 < (text_1.size : Int))) then
      bif ((decide (0 ≤ i_5)) && (decide (i_5 < (text_1.size : Int)))) then
      k (.c1 (w32 (((BitVec.toNat ((BitVec.ofInt (IntKind.bits IntKind.u32) sum_0) ^^^ (BitVec.ofInt (IntKind.bits IntKind.u32) (w32 (bt text_1 i_5))))) : Nat) : Int)) text_1 i_5 (0 : Int))
      else none
    else
      some sum_0
  | .c1 sum_0 text_1 i_5 v_19 =>
    bif (decide (v_19 < 8)) then
      bif ((w32 (((BitVec.toNat ((BitVec.ofInt (IntKind.bits IntKind.u32) sum_0) &&& (BitVec.ofInt (IntKind.bits IntKind.u32) (1 : Int)))) : Nat) : Int)) == 1) then
        k (.c1 (w32 (((BitVec.toNat ((BitVec.ofInt (IntKind.bits IntKind.u32) (Int.fdiv sum_0 (2 ^ (Min.min (1 : Int).toNat (IntKind.bits IntKind.u32))))) ^^^ (BitVec.ofInt (IntKind.bits IntKind.u32) (3558460437 : Int)))) : Nat) : Int)) text_1 i_5 (w64 (v_19 + 1)))
      else
        k (.c1 (Int.fdiv sum_0 (2 ^ (Min.min (1 : Int).toNat (IntKind.bits IntKind.u32)))) text_1 i_5 (w64 (v_19 + 1)))
    else
      k (.c0 sum_0 text_1 (w64 (i_5 + 1)))
noncomputable def L_impl_SumMore : Nat → St_impl_SumMore → Option Int
  | 0, _ => none
  | m + 1, s => B_impl_SumMore  (L_impl_SumMore m) s
noncomputable def impl_SumMore (sum_0 : Int) (text_1 : ByteArray) : Option Int := E_impl_SumMore  (L_impl_SumMore gas) sum_0 text_1
theorem e_impl_SumMore  : EntryIs ctx PP 192 [] [] cv17 cv18 at_impl_SumMore (fun k a => E_impl_SumMore  k a.1 a.2) := fun stop a => by kernel_rfl
theorem b_impl_SumMore  : CutIs ctx PP 192 Tryz.f192 [] [] cv18 at_impl_SumMore (B_impl_SumMore ) := fun stop s => by cases s <;> kernel_rfl
theorem i_impl_SumMore : ∀ s s', at_impl_SumMore s = at_impl_SumMore s' → s = s' := by
  intro s s' h
  cases s with
  | c0 v0 v1 v2 => cases s' with
    | c0 w0 w1 w2 => cases h; rfl
    | c1 w0 w1 w2 w3 => exact (region_ne 2 6 h (by kernel_rfl) (by kernel_rfl) rfl).elim
  | c1 v0 v1 v2 v3 => cases s' with
    | c0 w0 w1 w2 => exact (region_ne 6 2 h (by kernel_rfl) (by kernel_rfl) rfl).elim
    | c1 w0 w1 w2 w3 => cases h; rfl
theorem ok_impl_SumMore : Tells ctx PP 192 cv17 cv18 (fun a => impl_SumMore a.1 a.2) := fn_ok hl_nil Tryz.func192 i_impl_SumMore (fun _ => rfl) (fun _ _ => rfl) (b_impl_SumMore ) (e_impl_SumMore ) gas
noncomputable def H_impl_SumMore {γ : Type} (F : Int → ByteArray → Option Int) : Hd ctx γ := hdl cv17.dec (fun a => F a.1 a.2) cv18.enc
theorem h_impl_SumMore {γ : Type} : HdOk (γ := γ) PP 192 (H_impl_SumMore impl_SumMore) := hd_ok ok_impl_SumMore
noncomputable def E_impl_SumOf (impl_SumMore : Int → ByteArray → Option Int) (text_0 : ByteArray) : Option Int :=
  (impl_SumMore (4294967295 : Int) text_0).bind fun r0 =>
  some r0
noncomputable def impl_SumOf (text_0 : ByteArray) : Option Int := E_impl_SumOf impl_SumMore text_0
theorem e_impl_SumOf (impl_SumMore : Int → ByteArray → Option Int) : EntryIs0 ctx PP 162 [] [(192, H_impl_SumMore impl_SumMore)] cv11 cv18 (fun a => E_impl_SumOf impl_SumMore a) := fun a => by kernel_rfl
theorem ok_impl_SumOf : Tells ctx PP 162 cv11 cv18 (fun a => impl_SumOf a) := fn_ok0 (hl_cons h_impl_SumMore hl_nil) Tryz.func162 (e_impl_SumOf impl_SumMore)
noncomputable def H_impl_SumOf {γ : Type} (F : ByteArray → Option Int) : Hd ctx γ := hdl cv11.dec (fun a => F a) cv18.enc
theorem h_impl_SumOf {γ : Type} : HdOk (γ := γ) PP 162 (H_impl_SumOf impl_SumOf) := hd_ok ok_impl_SumOf
noncomputable def E_impl_fourBytes  (n_0 : Int) : Option ByteArray :=
  some (ofBytes [(w8 (Int.fdiv n_0 (2 ^ (Min.min (24 : Int).toNat (IntKind.bits IntKind.u32))))), (w8 (Int.fdiv n_0 (2 ^ (Min.min (16 : Int).toNat (IntKind.bits IntKind.u32))))), (w8 (Int.fdiv n_0 (2 ^ (Min.min (8 : Int).toNat (IntKind.bits IntKind.u32))))), (w8 n_0)])
noncomputable def impl_fourBytes (n_0 : Int) : Option ByteArray := E_impl_fourBytes  n_0
theorem e_impl_fourBytes  : EntryIs0 ctx PP 161 [] [] cv18 cv11 (fun a => E_impl_fourBytes  a) := fun a => by kernel_rfl
theorem ok_impl_fourBytes : Tells ctx PP 161 cv18 cv11 (fun a => impl_fourBytes a) := fn_ok0 hl_nil Tryz.func161 (e_impl_fourBytes )
noncomputable def H_impl_fourBytes {γ : Type} (F : Int → Option ByteArray) : Hd ctx γ := hdl cv18.dec (fun a => F a) cv11.enc
theorem h_impl_fourBytes {γ : Type} : HdOk (γ := γ) PP 161 (H_impl_fourBytes impl_fourBytes) := hd_ok ok_impl_fourBytes
noncomputable def todo_impl_Unframe_0 : List Go.Item := [.code (cAt (bodyOf Tryz.f111) [1, 1, 1, 1, 0, 0, 0, 0]), .code (cAt (bodyOf Tryz.f111) [1, 1, 1, 1, 0, 0, 0, 1]), .inBlock 1, .inLoop (cAt (bodyOf Tryz.f111) [1, 1, 1, 1, 0, 0]), .inBlock 0]
inductive St_impl_Unframe where
  | c0 (file_0 : ByteArray) (at_5 : Int) (out_4 : (List ByteArray))
noncomputable def at_impl_Unframe : St_impl_Unframe → LI
  | .c0 file_0 at_5 out_4 => (todo_impl_Unframe_0, [(0, [.one (.str file_0)]), (4, [.one (.own 304)]), (5, [.one (.int .i64 at_5)])], [(304, .sl 9 out_4)])
noncomputable def E_impl_Unframe (impl_ReadVar : ByteArray → Int → Option (Int × Int × Bool)) (impl_in : Int → Int → Int → Option Bool) (impl_SumOf : ByteArray → Option Int) (impl_fourBytes : Int → Option ByteArray) (k : St_impl_Unframe → Option ((List ByteArray) × Int)) (file_0 : ByteArray) : Option ((List ByteArray) × Int) :=
  bif (decide ((file_0.size : Int) > 20000)) then
    some ([], (0 : Int))
  else
    k (.c0 file_0 (0 : Int) [])
noncomputable def B_impl_Unframe (impl_ReadVar : ByteArray → Int → Option (Int × Int × Bool)) (impl_in : Int → Int → Int → Option Bool) (impl_SumOf : ByteArray → Option Int) (impl_fourBytes : Int → Option ByteArray) (k : St_impl_Unframe → Option ((List ByteArray) × Int)) : St_impl_Unframe → Option ((List ByteArray) × Int)
  | .c0 file_0 at_5 out_4 =>
    (impl_ReadVar file_0 at_5).bind fun r0 =>
    bif (!r0.2.2) then
      some (out_4, at_5)
    else
      (impl_in r0.1 (1 : Int) (9000 : Int)).bind fun r1 =>
      bif (!r1) then
        some (out_4, at_5)
      else
        bif (decide (r0.1 > (w64 ((w64 ((file_0.size : Int) - r0.2.1)) - 4)))) then
          some (out_4, at_5)
        else
          bif (((decide (0 ≤ (w64 (r0.2.1 + 4)))) && (decide ((w64 (r0.2.1 + 4)) ≤ (w64 ((w64 (r0.2.1 + 4)) + r0.1))))) && (decide ((w64 ((w64 (r0.2.1 + 4)) + r0.1)) ≤ (file_0.size : Int)))) then
          bif (((decide (0 ≤ r0.2.1)) && (decide (r0.2.1 ≤ (w64 (r0.2.1 + 4))))) && (decide ((w64 (r0.2.1 + 4)) ≤ (file_0.size : Int)))) then
          (impl_SumOf (file_0.extract (w64 (r0.2.1 + 4)).toNat (w64 ((w64 (r0.2.1 + 4)) + r0.1)).toNat)).bind fun r2 =>
          (impl_fourBytes r2).bind fun r3 =>
          bif (!((ByteArray.toList (file_0.extract r0.2.1.toNat (w64 (r0.2.1 + 4)).toNat)) == (ByteArray.toList r3))) then
            some (out_4, at_5)
          else
            bif (decide (((out_4.length + 1) * 16) ≤ 140737488355328)) then
            k (.c0 file_0 (w64 ((w64 (r0.2.1 + 4)) + r0.1)) (out_4 ++ [(file_0.extract (w64 (r0.2.1 + 4)).toNat (w64 ((w64 (r0.2.1 + 4)) + r0.1)).toNat)]))
            else none
          else none
          else none
noncomputable def L_impl_Unframe : Nat → St_impl_Unframe → Option ((List ByteArray) × Int)
  | 0, _ => none
  | m + 1, s => B_impl_Unframe impl_ReadVar impl_in impl_SumOf impl_fourBytes (L_impl_Unframe m) s
noncomputable def impl_Unframe (file_0 : ByteArray) : Option ((List ByteArray) × Int) := E_impl_Unframe impl_ReadVar impl_in impl_SumOf impl_fourBytes (L_impl_Unframe gas) file_0
theorem e_impl_Unframe (impl_ReadVar : ByteArray → Int → Option (Int × Int × Bool)) (impl_in : Int → Int → Int → Option Bool) (impl_SumOf : ByteArray → Option Int) (impl_fourBytes : Int → Option ByteArray) : EntryIs ctx PP 111 [] [(160, H_impl_ReadVar impl_ReadVar), (67, H_impl_in impl_in), (162, H_impl_SumOf impl_SumOf), (161, H_impl_fourBytes impl_fourBytes)] cv11 cv19 at_impl_Unframe (fun k a => E_impl_Unframe impl_ReadVar impl_in impl_SumOf impl_fourBytes k a) := fun stop a => by kernel_rfl
theorem b_impl_Unframe (impl_ReadVar : ByteArray → Int → Option (Int × Int × Bool)) (impl_in : Int → Int → Int → Option Bool) (impl_SumOf : ByteArray → Option Int) (impl_fourBytes : Int → Option ByteArray) : CutIs ctx PP 111 Tryz.f111 [] [(160, H_impl_ReadVar impl_ReadVar), (67, H_impl_in impl_in), (162, H_impl_SumOf impl_SumOf), (161, H_impl_fourBytes impl_fourBytes)] cv19 at_impl_Unframe (B_impl_Unframe impl_ReadVar impl_in impl_SumOf impl_fourBytes) := fun stop s => by cases s <;> kernel_rfl
theorem i_impl_Unframe : ∀ s s', at_impl_Unframe s = at_impl_Unframe s' → s = s' := by
  intro s s' h
  cases s with
  | c0 v0 v1 v2 => cases s' with
    | c0 w0 w1 w2 => cases h; rfl
theorem ok_impl_Unframe : Tells ctx PP 111 cv11 cv19 (fun a => impl_Unframe a) := fn_ok (hl_cons h_impl_ReadVar (hl_cons h_impl_in (hl_cons h_impl_SumOf (hl_cons h_impl_fourBytes hl_nil)))) Tryz.func111 i_impl_Unframe (fun _ => rfl) (fun _ _ => rfl) (b_impl_Unframe impl_ReadVar impl_in impl_SumOf impl_fourBytes) (e_impl_Unframe impl_ReadVar impl_in impl_SumOf impl_fourBytes) gas
noncomputable def H_impl_Unframe {γ : Type} (F : ByteArray → Option ((List ByteArray) × Int)) : Hd ctx γ := hdl cv11.dec (fun a => F a) cv19.enc
theorem h_impl_Unframe {γ : Type} : HdOk (γ := γ) PP 111 (H_impl_Unframe impl_Unframe) := hd_ok ok_impl_Unframe
noncomputable def todo_impl_varText_0 : List Go.Item := [.code (cAt (bodyOf Tryz.f168) [1, 1, 0, 0, 0, 0, 0]), .code (cAt (bodyOf Tryz.f168) [1, 1, 0, 0, 0, 0, 1]), .code (cAt (bodyOf Tryz.f168) [1, 1, 0, 0, 0, 1]), .inLoop (cAt (bodyOf Tryz.f168) [1, 1, 0, 0, 0]), .inBlock 0, .code (cAt (bodyOf Tryz.f168) [1, 1, 1])]
inductive St_impl_varText where
  | c0 (n_0 : Int) (out_3 : (List Int))
noncomputable def at_impl_varText : St_impl_varText → LI
  | .c0 n_0 out_3 => (todo_impl_varText_0, [(0, [.one (.int .i64 n_0)]), (3, [.one (.own 240)])], [(240, .sl 5 out_3)])
noncomputable def E_impl_varText  (k : St_impl_varText → Option ByteArray) (n_0 : Int) : Option ByteArray :=
  k (.c0 n_0 [])
noncomputable def B_impl_varText  (k : St_impl_varText → Option ByteArray) : St_impl_varText → Option ByteArray
  | .c0 n_0 out_3 =>
    bif (decide (n_0 > 127)) then
      bif (decide (((out_3.length + 1) * 1) ≤ 140737488355328)) then
      k (.c0 (w64 (n_0.tdiv 128)) (out_3 ++ [(w8 (w64 (128 + (n_0.tmod 128))))]))
      else none
    else
      bif (decide (((out_3.length + 1) * 1) ≤ 140737488355328)) then
      some (ofBytes (out_3 ++ [(w8 n_0)]))
      else none
noncomputable def L_impl_varText : Nat → St_impl_varText → Option ByteArray
  | 0, _ => none
  | m + 1, s => B_impl_varText  (L_impl_varText m) s
noncomputable def impl_varText (n_0 : Int) : Option ByteArray := E_impl_varText  (L_impl_varText gas) n_0
theorem e_impl_varText  : EntryIs ctx PP 168 [] [] cv1 cv11 at_impl_varText (fun k a => E_impl_varText  k a) := fun stop a => by kernel_rfl
theorem b_impl_varText  : CutIs ctx PP 168 Tryz.f168 [] [] cv11 at_impl_varText (B_impl_varText ) := fun stop s => by cases s <;> kernel_rfl
theorem i_impl_varText : ∀ s s', at_impl_varText s = at_impl_varText s' → s = s' := by
  intro s s' h
  cases s with
  | c0 v0 v1 => cases s' with
    | c0 w0 w1 => cases h; rfl
theorem ok_impl_varText : Tells ctx PP 168 cv1 cv11 (fun a => impl_varText a) := fn_ok hl_nil Tryz.func168 i_impl_varText (fun _ => rfl) (fun _ _ => rfl) (b_impl_varText ) (e_impl_varText ) gas
noncomputable def H_impl_varText {γ : Type} (F : Int → Option ByteArray) : Hd ctx γ := hdl cv1.dec (fun a => F a) cv11.enc
theorem h_impl_varText {γ : Type} : HdOk (γ := γ) PP 168 (H_impl_varText impl_varText) := hd_ok ok_impl_varText
noncomputable def E_impl_VarText (impl_in : Int → Int → Int → Option Bool) (impl_varText : Int → Option ByteArray) (n_0 : Int) : Option (ByteArray × Bool) :=
  (impl_in n_0 (0 : Int) (1000000000 : Int)).bind fun r0 =>
  bif (!r0) then
    some ((⟨#[]⟩ : ByteArray), false)
  else
    (impl_varText n_0).bind fun r1 =>
    some (r1, true)
noncomputable def impl_VarText (n_0 : Int) : Option (ByteArray × Bool) := E_impl_VarText impl_in impl_varText n_0
theorem e_impl_VarText (impl_in : Int → Int → Int → Option Bool) (impl_varText : Int → Option ByteArray) : EntryIs0 ctx PP 193 [] [(67, H_impl_in impl_in), (168, H_impl_varText impl_varText)] cv1 cv14 (fun a => E_impl_VarText impl_in impl_varText a) := fun a => by kernel_rfl
theorem ok_impl_VarText : Tells ctx PP 193 cv1 cv14 (fun a => impl_VarText a) := fn_ok0 (hl_cons h_impl_in (hl_cons h_impl_varText hl_nil)) Tryz.func193 (e_impl_VarText impl_in impl_varText)
noncomputable def H_impl_VarText {γ : Type} (F : Int → Option (ByteArray × Bool)) : Hd ctx γ := hdl cv1.dec (fun a => F a) cv14.enc
theorem h_impl_VarText {γ : Type} : HdOk (γ := γ) PP 193 (H_impl_VarText impl_VarText) := hd_ok ok_impl_VarText
noncomputable def E_impl_oneByte  (n_0 : Int) : Option ByteArray :=
  some (ofBytes [(w8 n_0)])
noncomputable def impl_oneByte (n_0 : Int) : Option ByteArray := E_impl_oneByte  n_0
theorem e_impl_oneByte  : EntryIs0 ctx PP 195 [] [] cv1 cv11 (fun a => E_impl_oneByte  a) := fun a => by kernel_rfl
theorem ok_impl_oneByte : Tells ctx PP 195 cv1 cv11 (fun a => impl_oneByte a) := fn_ok0 hl_nil Tryz.func195 (e_impl_oneByte )
noncomputable def H_impl_oneByte {γ : Type} (F : Int → Option ByteArray) : Hd ctx γ := hdl cv1.dec (fun a => F a) cv11.enc
theorem h_impl_oneByte {γ : Type} : HdOk (γ := γ) PP 195 (H_impl_oneByte impl_oneByte) := hd_ok ok_impl_oneByte
noncomputable def E_impl_firstState   : Option (List Int) :=
  some [(1779033703 : Int), (3144134277 : Int), (1013904242 : Int), (2773480762 : Int), (1359893119 : Int), (2600822924 : Int), (528734635 : Int), (1541459225 : Int)]
noncomputable def impl_firstState  : Option (List Int) := E_impl_firstState  
theorem e_impl_firstState  : EntryIs0 ctx PP 172 [] [] cv20 cv54 (fun _ => E_impl_firstState  ) := fun a => by kernel_rfl
theorem ok_impl_firstState : Tells ctx PP 172 cv20 cv54 (fun _ => impl_firstState ) := fn_ok0 hl_nil Tryz.func172 (e_impl_firstState )
noncomputable def H_impl_firstState {γ : Type} (F : Option (List Int)) : Hd ctx γ := hdl cv20.dec (fun _ => F ) cv54.enc
theorem h_impl_firstState {γ : Type} : HdOk (γ := γ) PP 172 (H_impl_firstState impl_firstState) := hd_ok ok_impl_firstState
noncomputable def E_impl_zeros  (n_0 : Int) : Option ByteArray :=
  bif ((((decide (0 ≤ n_0)) && (decide (n_0 ≤ n_0))) && (decide (n_0 ≤ 9223372036854775807))) && (decide ((n_0.toNat * 1) ≤ 140737488355328))) then
  some (ofBytes (List.replicate n_0.toNat (0 : Int)))
  else none
noncomputable def impl_zeros (n_0 : Int) : Option ByteArray := E_impl_zeros  n_0
theorem e_impl_zeros  : EntryIs0 ctx PP 118 [] [] cv1 cv11 (fun a => E_impl_zeros  a) := fun a => by kernel_rfl
theorem ok_impl_zeros : Tells ctx PP 118 cv1 cv11 (fun a => impl_zeros a) := fn_ok0 hl_nil Tryz.func118 (e_impl_zeros )
noncomputable def H_impl_zeros {γ : Type} (F : Int → Option ByteArray) : Hd ctx γ := hdl cv1.dec (fun a => F a) cv11.enc
theorem h_impl_zeros {γ : Type} : HdOk (γ := γ) PP 118 (H_impl_zeros impl_zeros) := hd_ok ok_impl_zeros
noncomputable def E_impl_eightBytes (impl_fourBytes : Int → Option ByteArray) (n_0 : Int) : Option ByteArray :=
  (impl_fourBytes (w32 (Int.fdiv n_0 (2 ^ (Min.min (32 : Int).toNat (IntKind.bits IntKind.i64)))))).bind fun r0 =>
  (impl_fourBytes (w32 n_0)).bind fun r1 =>
  bif (decide ((r0.size + r1.size) ≤ 9223372036854775807)) then
  some (r0 ++ r1)
  else none
noncomputable def impl_eightBytes (n_0 : Int) : Option ByteArray := E_impl_eightBytes impl_fourBytes n_0
theorem e_impl_eightBytes (impl_fourBytes : Int → Option ByteArray) : EntryIs0 ctx PP 201 [] [(161, H_impl_fourBytes impl_fourBytes)] cv1 cv11 (fun a => E_impl_eightBytes impl_fourBytes a) := fun a => by kernel_rfl
theorem ok_impl_eightBytes : Tells ctx PP 201 cv1 cv11 (fun a => impl_eightBytes a) := fn_ok0 (hl_cons h_impl_fourBytes hl_nil) Tryz.func201 (e_impl_eightBytes impl_fourBytes)
noncomputable def H_impl_eightBytes {γ : Type} (F : Int → Option ByteArray) : Hd ctx γ := hdl cv1.dec (fun a => F a) cv11.enc
theorem h_impl_eightBytes {γ : Type} : HdOk (γ := γ) PP 201 (H_impl_eightBytes impl_eightBytes) := hd_ok ok_impl_eightBytes
noncomputable def E_impl_ending (impl_zeros : Int → Option ByteArray) (impl_eightBytes : Int → Option ByteArray) (count_0 : Int) : Option ByteArray :=
  (impl_zeros ((w64 (119 - (count_0.tmod 64))).tmod 64)).bind fun r0 =>
  bif (decide (((⟨#[128]⟩ : ByteArray).size + r0.size) ≤ 9223372036854775807)) then
  (impl_eightBytes (w64 (8 * count_0))).bind fun r1 =>
  bif (decide ((((⟨#[128]⟩ : ByteArray) ++ r0).size + r1.size) ≤ 9223372036854775807)) then
  some (((⟨#[128]⟩ : ByteArray) ++ r0) ++ r1)
  else none
  else none
noncomputable def impl_ending (count_0 : Int) : Option ByteArray := E_impl_ending impl_zeros impl_eightBytes count_0
theorem e_impl_ending (impl_zeros : Int → Option ByteArray) (impl_eightBytes : Int → Option ByteArray) : EntryIs0 ctx PP 173 [] [(118, H_impl_zeros impl_zeros), (201, H_impl_eightBytes impl_eightBytes)] cv1 cv11 (fun a => E_impl_ending impl_zeros impl_eightBytes a) := fun a => by kernel_rfl
theorem ok_impl_ending : Tells ctx PP 173 cv1 cv11 (fun a => impl_ending a) := fn_ok0 (hl_cons h_impl_zeros (hl_cons h_impl_eightBytes hl_nil)) Tryz.func173 (e_impl_ending impl_zeros impl_eightBytes)
noncomputable def H_impl_ending {γ : Type} (F : Int → Option ByteArray) : Hd ctx γ := hdl cv1.dec (fun a => F a) cv11.enc
theorem h_impl_ending {γ : Type} : HdOk (γ := γ) PP 173 (H_impl_ending impl_ending) := hd_ok ok_impl_ending
noncomputable def E_math_bits_RotateLeft32  (x_0 : Int) (k_1 : Int) : Option Int :=
  bif (decide (0 ≤ (wu64 (32 - (wu64 (((BitVec.toNat ((BitVec.ofInt (IntKind.bits IntKind.u64) (wu64 k_1)) &&& (BitVec.ofInt (IntKind.bits IntKind.u64) (31 : Int)))) : Nat) : Int)))))) then
  some (w32 (((BitVec.toNat ((BitVec.ofInt (IntKind.bits IntKind.u32) (w32 (x_0 * (2 ^ (Min.min (wu64 (((BitVec.toNat ((BitVec.ofInt (IntKind.bits IntKind.u64) (wu64 k_1)) &&& (BitVec.ofInt (IntKind.bits IntKind.u64) (31 : Int)))) : Nat) : Int)).toNat (IntKind.bits IntKind.u32)))))) ||| (BitVec.ofInt (IntKind.bits IntKind.u32) (Int.fdiv x_0 (2 ^ (Min.min (wu64 (32 - (wu64 (((BitVec.toNat ((BitVec.ofInt (IntKind.bits IntKind.u64) (wu64 k_1)) &&& (BitVec.ofInt (IntKind.bits IntKind.u64) (31 : Int)))) : Nat) : Int)))).toNat (IntKind.bits IntKind.u32))))))) : Nat) : Int))
  else none
noncomputable def math_bits_RotateLeft32 (x_0 : Int) (k_1 : Int) : Option Int := E_math_bits_RotateLeft32  x_0 k_1
theorem e_math_bits_RotateLeft32  : EntryIs0 ctx PP 214 [] [] cv55 cv18 (fun a => E_math_bits_RotateLeft32  a.1 a.2) := fun a => by kernel_rfl
theorem ok_math_bits_RotateLeft32 : Tells ctx PP 214 cv55 cv18 (fun a => math_bits_RotateLeft32 a.1 a.2) := fn_ok0 hl_nil Tryz.func214 (e_math_bits_RotateLeft32 )
noncomputable def H_math_bits_RotateLeft32 {γ : Type} (F : Int → Int → Option Int) : Hd ctx γ := hdl cv55.dec (fun a => F a.1 a.2) cv18.enc
theorem h_math_bits_RotateLeft32 {γ : Type} : HdOk (γ := γ) PP 214 (H_math_bits_RotateLeft32 math_bits_RotateLeft32) := hd_ok ok_math_bits_RotateLeft32
noncomputable def E_impl_right (math_bits_RotateLeft32 : Int → Int → Option Int) (x_0 : Int) (n_1 : Int) : Option Int :=
  (math_bits_RotateLeft32 x_0 (w64 (0 - n_1))).bind fun r0 =>
  some r0
noncomputable def impl_right (x_0 : Int) (n_1 : Int) : Option Int := E_impl_right math_bits_RotateLeft32 x_0 n_1
theorem e_impl_right (math_bits_RotateLeft32 : Int → Int → Option Int) : EntryIs0 ctx PP 212 [] [(214, H_math_bits_RotateLeft32 math_bits_RotateLeft32)] cv55 cv18 (fun a => E_impl_right math_bits_RotateLeft32 a.1 a.2) := fun a => by kernel_rfl
theorem ok_impl_right : Tells ctx PP 212 cv55 cv18 (fun a => impl_right a.1 a.2) := fn_ok0 (hl_cons h_math_bits_RotateLeft32 hl_nil) Tryz.func212 (e_impl_right math_bits_RotateLeft32)
noncomputable def H_impl_right {γ : Type} (F : Int → Int → Option Int) : Hd ctx γ := hdl cv55.dec (fun a => F a.1 a.2) cv18.enc
theorem h_impl_right {γ : Type} : HdOk (γ := γ) PP 212 (H_impl_right impl_right) := hd_ok ok_impl_right
noncomputable def todo_impl_wordsOf_0 : List Go.Item := [.code (cAt (bodyOf Tryz.f211) [1, 1, 0, 1, 0, 0, 0]), .code (cAt (bodyOf Tryz.f211) [1, 1, 0, 1, 0, 0, 1]), .inLoop (cAt (bodyOf Tryz.f211) [1, 1, 0, 1, 0, 0]), .inBlock 0, .code (cAt (bodyOf Tryz.f211) [1, 1, 1])]
noncomputable def todo_impl_wordsOf_1 : List Go.Item := [.code (cAt (bodyOf Tryz.f211) [1, 1, 0, 1, 0, 0, 1, 1, 0, 0, 1, 1, 0, 0, 0]), .code (cAt (bodyOf Tryz.f211) [1, 1, 0, 1, 0, 0, 1, 1, 0, 0, 1, 1, 0, 0, 1]), .inLoop (cAt (bodyOf Tryz.f211) [1, 1, 0, 1, 0, 0, 1, 1, 0, 0, 1, 1, 0, 0]), .inBlock 2, .inBlock 1, .code (cAt (bodyOf Tryz.f211) [1, 1, 0, 1, 0, 0, 1, 1, 1]), .inLoop (cAt (bodyOf Tryz.f211) [1, 1, 0, 1, 0, 0]), .inBlock 0, .code (cAt (bodyOf Tryz.f211) [1, 1, 1])]
noncomputable def todo_impl_wordsOf_2 : List Go.Item := [.code (cAt (bodyOf Tryz.f211) [1, 1, 1, 0, 1, 0, 0, 0, 0]), .code (cAt (bodyOf Tryz.f211) [1, 1, 1, 0, 1, 0, 0, 0, 1]), .code (cAt (bodyOf Tryz.f211) [1, 1, 1, 0, 1, 0, 0, 1]), .inLoop (cAt (bodyOf Tryz.f211) [1, 1, 1, 0, 1, 0, 0]), .inBlock 4, .code (cAt (bodyOf Tryz.f211) [1, 1, 1, 1])]
inductive St_impl_wordsOf where
  | c0 (block_0 : ByteArray) (v_11 : Int) (v_2r0 : (List Int)) (w_3r0 : (List Int))
  | c1 (block_0 : ByteArray) (i_4 : Int) (v_11 : Int) (v_14 : Int) (v_2r0 : (List Int)) (w_3r0 : (List Int))
  | c2 (t_6 : Int) (v_2r0 : (List Int)) (w_3r0 : (List Int))
noncomputable def at_impl_wordsOf : St_impl_wordsOf → LI
  | .c0 block_0 v_11 v_2r0 w_3r0 => (todo_impl_wordsOf_0, [(0, [.one (.str block_0)]), (2, [.one (.ptr 128 0)]), (3, [.one (.ptr 192 0)]), (11, [.one (.int .i64 v_11)])], [(128, .ar 192 v_2r0), (192, .ar 192 w_3r0)])
  | .c1 block_0 i_4 v_11 v_14 v_2r0 w_3r0 => (todo_impl_wordsOf_1, [(0, [.one (.str block_0)]), (2, [.one (.ptr 128 0)]), (3, [.one (.ptr 192 0)]), (4, [.one (.int .i64 i_4)]), (11, [.one (.int .i64 v_11)]), (14, [.one (.int .i64 v_14)])], [(128, .ar 192 v_2r0), (192, .ar 192 w_3r0)])
  | .c2 t_6 v_2r0 w_3r0 => (todo_impl_wordsOf_2, [(2, [.one (.ptr 128 0)]), (3, [.one (.ptr 192 0)]), (6, [.one (.int .i64 t_6)])], [(128, .ar 192 v_2r0), (192, .ar 192 w_3r0)])
noncomputable def E_impl_wordsOf (impl_right : Int → Int → Option Int) (k : St_impl_wordsOf → Option (List Int)) (block_0 : ByteArray) : Option (List Int) :=
  k (.c0 block_0 (0 : Int) (List.replicate 64 (0 : Int)) (List.replicate 64 (0 : Int)))
noncomputable def B_impl_wordsOf (impl_right : Int → Int → Option Int) (k : St_impl_wordsOf → Option (List Int)) : St_impl_wordsOf → Option (List Int)
  | .c0 block_0 v_11 v_2r0 w_3r0 =>
    bif (decide (v_11 < 16)) then
      k (.c1 block_0 v_11 v_11 (0 : Int) v_2r0 w_3r0)
    else
      k (.c2 (16 : Int) v_2r0 w_3r0)
  | .c1 block_0 i_4 v_11 v_14 v_2r0 w_3r0 =>
    bif (decide (v_14 < 4)) then
      bif (Nat.beq 64 w_3r0.length) then
      bif ((decide (0 ≤ i_4)) && (decide (i_4 < (w_3r0.length : Int)))) then
      bif ((decide (0 ≤ (w64 ((w64 (4 * i_4)) + v_14)))) && (decide ((w64 ((w64 (4 * i_4)) + v_14)) < (block_0.size : Int)))) then
      bif (Nat.beq 64 w_3r0.length) then
      bif ((decide (0 ≤ i_4)) && (decide (i_4 < (w_3r0.length : Int)))) then
      k (.c1 block_0 i_4 v_11 (w64 (v_14 + 1)) v_2r0 (w_3r0.set i_4.toNat (w32 (((BitVec.toNat ((BitVec.ofInt (IntKind.bits IntKind.u32) (w32 ((w_3r0.getD i_4.toNat 0) * (2 ^ (Min.min (8 : Int).toNat (IntKind.bits IntKind.u32)))))) ||| (BitVec.ofInt (IntKind.bits IntKind.u32) (w32 (bt block_0 (w64 ((w64 (4 * i_4)) + v_14))))))) : Nat) : Int))))
      else none
      else none
      else none
      else none
      else none
    else
      k (.c0 block_0 (w64 (v_11 + 1)) v_2r0 w_3r0)
  | .c2 t_6 v_2r0 w_3r0 =>
    bif (decide (t_6 < 64)) then
      bif (Nat.beq 64 w_3r0.length) then
      bif ((decide (0 ≤ (w64 (t_6 - 15)))) && (decide ((w64 (t_6 - 15)) < (w_3r0.length : Int)))) then
      bif (Nat.beq 64 w_3r0.length) then
      bif ((decide (0 ≤ (w64 (t_6 - 2)))) && (decide ((w64 (t_6 - 2)) < (w_3r0.length : Int)))) then
      (impl_right (w_3r0.getD (w64 (t_6 - 15)).toNat 0) (7 : Int)).bind fun r0 =>
      (impl_right (w_3r0.getD (w64 (t_6 - 15)).toNat 0) (18 : Int)).bind fun r1 =>
      (impl_right (w_3r0.getD (w64 (t_6 - 2)).toNat 0) (17 : Int)).bind fun r2 =>
      (impl_right (w_3r0.getD (w64 (t_6 - 2)).toNat 0) (19 : Int)).bind fun r3 =>
      bif (Nat.beq 64 w_3r0.length) then
      bif ((decide (0 ≤ (w64 (t_6 - 7)))) && (decide ((w64 (t_6 - 7)) < (w_3r0.length : Int)))) then
      bif (Nat.beq 64 w_3r0.length) then
      bif ((decide (0 ≤ (w64 (t_6 - 16)))) && (decide ((w64 (t_6 - 16)) < (w_3r0.length : Int)))) then
      bif (Nat.beq 64 w_3r0.length) then
      bif ((decide (0 ≤ t_6)) && (decide (t_6 < (w_3r0.length : Int)))) then
      k (.c2 (w64 (t_6 + 1)) v_2r0 (w_3r0.set t_6.toNat (w32 ((w32 ((w32 ((w32 (((BitVec.toNat ((BitVec.ofInt (IntKind.bits IntKind.u32) (w32 (((BitVec.toNat ((BitVec.ofInt (IntKind.bits IntKind.u32) r2) ^^^ (BitVec.ofInt (IntKind.bits IntKind.u32) r3))) : Nat) : Int))) ^^^ (BitVec.ofInt (IntKind.bits IntKind.u32) (Int.fdiv (w_3r0.getD (w64 (t_6 - 2)).toNat 0) (2 ^ (Min.min (10 : Int).toNat (IntKind.bits IntKind.u32))))))) : Nat) : Int)) + (w_3r0.getD (w64 (t_6 - 7)).toNat 0))) + (w32 (((BitVec.toNat ((BitVec.ofInt (IntKind.bits IntKind.u32) (w32 (((BitVec.toNat ((BitVec.ofInt (IntKind.bits IntKind.u32) r0) ^^^ (BitVec.ofInt (IntKind.bits IntKind.u32) r1))) : Nat) : Int))) ^^^ (BitVec.ofInt (IntKind.bits IntKind.u32) (Int.fdiv (w_3r0.getD (w64 (t_6 - 15)).toNat 0) (2 ^ (Min.min (3 : Int).toNat (IntKind.bits IntKind.u32))))))) : Nat) : Int)))) + (w_3r0.getD (w64 (t_6 - 16)).toNat 0)))))
      else none
      else none
      else none
      else none
      else none
      else none
      else none
      else none
      else none
      else none
    else
      bif (Nat.beq 64 w_3r0.length) then
      bif ((Nat.beq w_3r0.length v_2r0.length) && (Nat.beq 64 w_3r0.length)) then
      bif ((Nat.beq 64 w_3r0.length) && true) then
      some w_3r0
      else none
      else none
      else none
noncomputable def L_impl_wordsOf : Nat → St_impl_wordsOf → Option (List Int)
  | 0, _ => none
  | m + 1, s => B_impl_wordsOf impl_right (L_impl_wordsOf m) s
noncomputable def impl_wordsOf (block_0 : ByteArray) : Option (List Int) := E_impl_wordsOf impl_right (L_impl_wordsOf gas) block_0
theorem e_impl_wordsOf (impl_right : Int → Int → Option Int) : EntryIs ctx PP 211 [] [(212, H_impl_right impl_right)] cv11 cv54 at_impl_wordsOf (fun k a => E_impl_wordsOf impl_right k a) := fun stop a => by kernel_rfl
theorem b_impl_wordsOf (impl_right : Int → Int → Option Int) : CutIs ctx PP 211 Tryz.f211 [] [(212, H_impl_right impl_right)] cv54 at_impl_wordsOf (B_impl_wordsOf impl_right) := fun stop s => by cases s <;> kernel_rfl
theorem i_impl_wordsOf : ∀ s s', at_impl_wordsOf s = at_impl_wordsOf s' → s = s' := by
  intro s s' h
  cases s with
  | c0 v0 v1 v2 v3 => cases s' with
    | c0 w0 w1 w2 w3 => cases h; rfl
    | c1 w0 w1 w2 w3 w4 w5 => exact (region_ne 3 6 h (by kernel_rfl) (by kernel_rfl) rfl).elim
    | c2 w0 w1 w2 => exact (region_ne 3 12 h (by kernel_rfl) (by kernel_rfl) rfl).elim
  | c1 v0 v1 v2 v3 v4 v5 => cases s' with
    | c0 w0 w1 w2 w3 => exact (region_ne 6 3 h (by kernel_rfl) (by kernel_rfl) rfl).elim
    | c1 w0 w1 w2 w3 w4 w5 => cases h; rfl
    | c2 w0 w1 w2 => exact (region_ne 6 12 h (by kernel_rfl) (by kernel_rfl) rfl).elim
  | c2 v0 v1 v2 => cases s' with
    | c0 w0 w1 w2 w3 => exact (region_ne 12 3 h (by kernel_rfl) (by kernel_rfl) rfl).elim
    | c1 w0 w1 w2 w3 w4 w5 => exact (region_ne 12 6 h (by kernel_rfl) (by kernel_rfl) rfl).elim
    | c2 w0 w1 w2 => cases h; rfl
theorem ok_impl_wordsOf : Tells ctx PP 211 cv11 cv54 (fun a => impl_wordsOf a) := fn_ok (hl_cons h_impl_right hl_nil) Tryz.func211 i_impl_wordsOf (fun _ => rfl) (fun _ _ => rfl) (b_impl_wordsOf impl_right) (e_impl_wordsOf impl_right) gas
noncomputable def H_impl_wordsOf {γ : Type} (F : ByteArray → Option (List Int)) : Hd ctx γ := hdl cv11.dec (fun a => F a) cv54.enc
theorem h_impl_wordsOf {γ : Type} : HdOk (γ := γ) PP 211 (H_impl_wordsOf impl_wordsOf) := hd_ok ok_impl_wordsOf
noncomputable def todo_impl_oneBlock_0 : List Go.Item := [.code (cAt (bodyOf Tryz.f200) [1, 1, 1, 0, 1, 0, 0, 0]), .code (cAt (bodyOf Tryz.f200) [1, 1, 1, 0, 1, 0, 0, 1]), .inLoop (cAt (bodyOf Tryz.f200) [1, 1, 1, 0, 1, 0, 0]), .inBlock 0, .code (cAt (bodyOf Tryz.f200) [1, 1, 1, 1])]
noncomputable def todo_impl_oneBlock_1 : List Go.Item := [.code (cAt (bodyOf Tryz.f200) [1, 1, 1, 1, 1, 0, 1, 0, 0, 0]), .code (cAt (bodyOf Tryz.f200) [1, 1, 1, 1, 1, 0, 1, 0, 0, 1]), .inLoop (cAt (bodyOf Tryz.f200) [1, 1, 1, 1, 1, 0, 1, 0, 0]), .inBlock 2, .code (cAt (bodyOf Tryz.f200) [1, 1, 1, 1, 1, 1])]
inductive St_impl_oneBlock where
  | c0 (a_6 : Int) (b_7 : Int) (c_8 : Int) (d_9 : Int) (e_10 : Int) (f_11 : Int) (g_12 : Int) (h_13 : Int) (v_37 : Int) (state_2r0 : (List Int)) (v_4r0 : (List Int)) (w_5r0 : (List Int))
  | c1 (v_109 : Int) (state_2r0 : (List Int)) (v_4r0 : (List Int)) (out_17r0 : (List Int))
noncomputable def at_impl_oneBlock : St_impl_oneBlock → LI
  | .c0 a_6 b_7 c_8 d_9 e_10 f_11 g_12 h_13 v_37 state_2r0 v_4r0 w_5r0 => (todo_impl_oneBlock_0, [(2, [.one (.ptr 128 0)]), (4, [.one (.ptr 256 0)]), (5, [.one (.ptr 320 0)]), (6, [.one (.int .u32 a_6)]), (7, [.one (.int .u32 b_7)]), (8, [.one (.int .u32 c_8)]), (9, [.one (.int .u32 d_9)]), (10, [.one (.int .u32 e_10)]), (11, [.one (.int .u32 f_11)]), (12, [.one (.int .u32 g_12)]), (13, [.one (.int .u32 h_13)]), (37, [.one (.int .i64 v_37)])], [(128, .ar 192 state_2r0), (256, .ar 192 v_4r0), (320, .ar 192 w_5r0)])
  | .c1 v_109 state_2r0 v_4r0 out_17r0 => (todo_impl_oneBlock_1, [(2, [.one (.ptr 128 0)]), (4, [.one (.ptr 256 0)]), (17, [.one (.ptr 1088 0)]), (109, [.one (.int .i64 v_109)])], [(128, .ar 192 state_2r0), (256, .ar 192 v_4r0), (1088, .ar 192 out_17r0)])
noncomputable def E_impl_oneBlock (impl_wordsOf : ByteArray → Option (List Int)) (impl_right : Int → Int → Option Int) (k : St_impl_oneBlock → Option (List Int)) (state_0 : (List Int)) (block_1 : ByteArray) : Option (List Int) :=
  (impl_wordsOf block_1).bind fun r0 =>
  bif ((Nat.beq r0.length (List.replicate 64 (0 : Int)).length) && (Nat.beq 64 r0.length)) then
  bif (Nat.beq 8 state_0.length) then
  bif ((decide ((0 : Int) ≤ (0 : Int))) && (decide (0 < (state_0.length : Int)))) then
  bif (Nat.beq 8 state_0.length) then
  bif ((decide ((0 : Int) ≤ (1 : Int))) && (decide (1 < (state_0.length : Int)))) then
  bif (Nat.beq 8 state_0.length) then
  bif ((decide ((0 : Int) ≤ (2 : Int))) && (decide (2 < (state_0.length : Int)))) then
  bif (Nat.beq 8 state_0.length) then
  bif ((decide ((0 : Int) ≤ (3 : Int))) && (decide (3 < (state_0.length : Int)))) then
  bif (Nat.beq 8 state_0.length) then
  bif ((decide ((0 : Int) ≤ (4 : Int))) && (decide (4 < (state_0.length : Int)))) then
  bif (Nat.beq 8 state_0.length) then
  bif ((decide ((0 : Int) ≤ (5 : Int))) && (decide (5 < (state_0.length : Int)))) then
  bif (Nat.beq 8 state_0.length) then
  bif ((decide ((0 : Int) ≤ (6 : Int))) && (decide (6 < (state_0.length : Int)))) then
  bif (Nat.beq 8 state_0.length) then
  bif ((decide ((0 : Int) ≤ (7 : Int))) && (decide (7 < (state_0.length : Int)))) then
  k (.c0 (state_0.getD (0 : Int).toNat 0) (state_0.getD (1 : Int).toNat 0) (state_0.getD (2 : Int).toNat 0) (state_0.getD (3 : Int).toNat 0) (state_0.getD (4 : Int).toNat 0) (state_0.getD (5 : Int).toNat 0) (state_0.getD (6 : Int).toNat 0) (state_0.getD (7 : Int).toNat 0) (0 : Int) state_0 [(0 : Int), (0 : Int), (0 : Int), (0 : Int), (0 : Int), (0 : Int), (0 : Int), (0 : Int)] r0)
  else none
  else none
  else none
  else none
  else none
  else none
  else none
  else none
  else none
  else none
  else none
  else none
  else none
  else none
  else none
  else none
  else none
noncomputable def B_impl_oneBlock (impl_wordsOf : ByteArray → Option (List Int)) (impl_right : Int → Int → Option Int) (k : St_impl_oneBlock → Option (List Int)) : St_impl_oneBlock → Option (List Int)
  | .c0 a_6 b_7 c_8 d_9 e_10 f_11 g_12 h_13 v_37 state_2r0 v_4r0 w_5r0 =>
    bif (decide (v_37 < 64)) then
      (impl_right e_10 (6 : Int)).bind fun r0 =>
      (impl_right e_10 (11 : Int)).bind fun r1 =>
      (impl_right e_10 (25 : Int)).bind fun r2 =>
      bif ((decide (0 ≤ v_37)) && (decide (v_37 < ((64 : Nat) : Int)))) then
      bif (Nat.blt v_37.toNat 64) then
      bif (Nat.beq 64 w_5r0.length) then
      bif ((decide (0 ≤ v_37)) && (decide (v_37 < (w_5r0.length : Int)))) then
      (impl_right a_6 (2 : Int)).bind fun r3 =>
      (impl_right a_6 (13 : Int)).bind fun r4 =>
      (impl_right a_6 (22 : Int)).bind fun r5 =>
      k (.c0 (w32 ((w32 ((w32 ((w32 ((w32 (h_13 + (w32 (((BitVec.toNat ((BitVec.ofInt (IntKind.bits IntKind.u32) (w32 (((BitVec.toNat ((BitVec.ofInt (IntKind.bits IntKind.u32) r0) ^^^ (BitVec.ofInt (IntKind.bits IntKind.u32) r1))) : Nat) : Int))) ^^^ (BitVec.ofInt (IntKind.bits IntKind.u32) r2))) : Nat) : Int)))) + (w32 (((BitVec.toNat ((BitVec.ofInt (IntKind.bits IntKind.u32) (w32 (((BitVec.toNat ((BitVec.ofInt (IntKind.bits IntKind.u32) e_10) &&& (BitVec.ofInt (IntKind.bits IntKind.u32) f_11))) : Nat) : Int))) ^^^ (BitVec.ofInt (IntKind.bits IntKind.u32) (w32 (((BitVec.toNat ((BitVec.ofInt (IntKind.bits IntKind.u32) (w32 (((BitVec.toNat ((BitVec.ofInt (IntKind.bits IntKind.u32) (ite ((IntKind.signed IntKind.u32) = true) (-(1 : Int)) (IntKind.max IntKind.u32))) ^^^ (BitVec.ofInt (IntKind.bits IntKind.u32) e_10))) : Nat) : Int))) &&& (BitVec.ofInt (IntKind.bits IntKind.u32) g_12))) : Nat) : Int))))) : Nat) : Int)))) + ([(1116352408 : Int), (1899447441 : Int), (3049323471 : Int), (3921009573 : Int), (961987163 : Int), (1508970993 : Int), (2453635748 : Int), (2870763221 : Int), (3624381080 : Int), (310598401 : Int), (607225278 : Int), (1426881987 : Int), (1925078388 : Int), (2162078206 : Int), (2614888103 : Int), (3248222580 : Int), (3835390401 : Int), (4022224774 : Int), (264347078 : Int), (604807628 : Int), (770255983 : Int), (1249150122 : Int), (1555081692 : Int), (1996064986 : Int), (2554220882 : Int), (2821834349 : Int), (2952996808 : Int), (3210313671 : Int), (3336571891 : Int), (3584528711 : Int), (113926993 : Int), (338241895 : Int), (666307205 : Int), (773529912 : Int), (1294757372 : Int), (1396182291 : Int), (1695183700 : Int), (1986661051 : Int), (2177026350 : Int), (2456956037 : Int), (2730485921 : Int), (2820302411 : Int), (3259730800 : Int), (3345764771 : Int), (3516065817 : Int), (3600352804 : Int), (4094571909 : Int), (275423344 : Int), (430227734 : Int), (506948616 : Int), (659060556 : Int), (883997877 : Int), (958139571 : Int), (1322822218 : Int), (1537002063 : Int), (1747873779 : Int), (1955562222 : Int), (2024104815 : Int), (2227730452 : Int), (2361852424 : Int), (2428436474 : Int), (2756734187 : Int), (3204031479 : Int), (3329325298 : Int)].getD v_37.toNat 0))) + (w_5r0.getD v_37.toNat 0))) + (w32 ((w32 (((BitVec.toNat ((BitVec.ofInt (IntKind.bits IntKind.u32) (w32 (((BitVec.toNat ((BitVec.ofInt (IntKind.bits IntKind.u32) r3) ^^^ (BitVec.ofInt (IntKind.bits IntKind.u32) r4))) : Nat) : Int))) ^^^ (BitVec.ofInt (IntKind.bits IntKind.u32) r5))) : Nat) : Int)) + (w32 (((BitVec.toNat ((BitVec.ofInt (IntKind.bits IntKind.u32) (w32 (((BitVec.toNat ((BitVec.ofInt (IntKind.bits IntKind.u32) (w32 (((BitVec.toNat ((BitVec.ofInt (IntKind.bits IntKind.u32) a_6) &&& (BitVec.ofInt (IntKind.bits IntKind.u32) b_7))) : Nat) : Int))) ^^^ (BitVec.ofInt (IntKind.bits IntKind.u32) (w32 (((BitVec.toNat ((BitVec.ofInt (IntKind.bits IntKind.u32) a_6) &&& (BitVec.ofInt (IntKind.bits IntKind.u32) c_8))) : Nat) : Int))))) : Nat) : Int))) ^^^ (BitVec.ofInt (IntKind.bits IntKind.u32) (w32 (((BitVec.toNat ((BitVec.ofInt (IntKind.bits IntKind.u32) b_7) &&& (BitVec.ofInt (IntKind.bits IntKind.u32) c_8))) : Nat) : Int))))) : Nat) : Int)))))) a_6 b_7 c_8 (w32 (d_9 + (w32 ((w32 ((w32 ((w32 (h_13 + (w32 (((BitVec.toNat ((BitVec.ofInt (IntKind.bits IntKind.u32) (w32 (((BitVec.toNat ((BitVec.ofInt (IntKind.bits IntKind.u32) r0) ^^^ (BitVec.ofInt (IntKind.bits IntKind.u32) r1))) : Nat) : Int))) ^^^ (BitVec.ofInt (IntKind.bits IntKind.u32) r2))) : Nat) : Int)))) + (w32 (((BitVec.toNat ((BitVec.ofInt (IntKind.bits IntKind.u32) (w32 (((BitVec.toNat ((BitVec.ofInt (IntKind.bits IntKind.u32) e_10) &&& (BitVec.ofInt (IntKind.bits IntKind.u32) f_11))) : Nat) : Int))) ^^^ (BitVec.ofInt (IntKind.bits IntKind.u32) (w32 (((BitVec.toNat ((BitVec.ofInt (IntKind.bits IntKind.u32) (w32 (((BitVec.toNat ((BitVec.ofInt (IntKind.bits IntKind.u32) (ite ((IntKind.signed IntKind.u32) = true) (-(1 : Int)) (IntKind.max IntKind.u32))) ^^^ (BitVec.ofInt (IntKind.bits IntKind.u32) e_10))) : Nat) : Int))) &&& (BitVec.ofInt (IntKind.bits IntKind.u32) g_12))) : Nat) : Int))))) : Nat) : Int)))) + ([(1116352408 : Int), (1899447441 : Int), (3049323471 : Int), (3921009573 : Int), (961987163 : Int), (1508970993 : Int), (2453635748 : Int), (2870763221 : Int), (3624381080 : Int), (310598401 : Int), (607225278 : Int), (1426881987 : Int), (1925078388 : Int), (2162078206 : Int), (2614888103 : Int), (3248222580 : Int), (3835390401 : Int), (4022224774 : Int), (264347078 : Int), (604807628 : Int), (770255983 : Int), (1249150122 : Int), (1555081692 : Int), (1996064986 : Int), (2554220882 : Int), (2821834349 : Int), (2952996808 : Int), (3210313671 : Int), (3336571891 : Int), (3584528711 : Int), (113926993 : Int), (338241895 : Int), (666307205 : Int), (773529912 : Int), (1294757372 : Int), (1396182291 : Int), (1695183700 : Int), (1986661051 : Int), (2177026350 : Int), (2456956037 : Int), (2730485921 : Int), (2820302411 : Int), (3259730800 : Int), (3345764771 : Int), (3516065817 : Int), (3600352804 : Int), (4094571909 : Int), (275423344 : Int), (430227734 : Int), (506948616 : Int), (659060556 : Int), (883997877 : Int), (958139571 : Int), (1322822218 : Int), (1537002063 : Int), (1747873779 : Int), (1955562222 : Int), (2024104815 : Int), (2227730452 : Int), (2361852424 : Int), (2428436474 : Int), (2756734187 : Int), (3204031479 : Int), (3329325298 : Int)].getD v_37.toNat 0))) + (w_5r0.getD v_37.toNat 0))))) e_10 f_11 g_12 (w64 (v_37 + 1)) state_2r0 v_4r0 w_5r0)
      else none
      else none
      else none
      else none
    else
      k (.c1 (0 : Int) state_2r0 v_4r0 [a_6, b_7, c_8, d_9, e_10, f_11, g_12, h_13])
  | .c1 v_109 state_2r0 v_4r0 out_17r0 =>
    bif (decide (v_109 < 8)) then
      bif (Nat.beq 8 out_17r0.length) then
      bif ((decide (0 ≤ v_109)) && (decide (v_109 < (out_17r0.length : Int)))) then
      bif (Nat.beq 8 state_2r0.length) then
      bif ((decide (0 ≤ v_109)) && (decide (v_109 < (state_2r0.length : Int)))) then
      bif (Nat.beq 8 out_17r0.length) then
      bif ((decide (0 ≤ v_109)) && (decide (v_109 < (out_17r0.length : Int)))) then
      k (.c1 (w64 (v_109 + 1)) state_2r0 v_4r0 (out_17r0.set v_109.toNat (w32 ((out_17r0.getD v_109.toNat 0) + (state_2r0.getD v_109.toNat 0)))))
      else none
      else none
      else none
      else none
      else none
      else none
    else
      bif (Nat.beq 8 out_17r0.length) then
      bif ((Nat.beq out_17r0.length v_4r0.length) && (Nat.beq 8 out_17r0.length)) then
      bif ((Nat.beq 8 out_17r0.length) && true) then
      some out_17r0
      else none
      else none
      else none
noncomputable def L_impl_oneBlock : Nat → St_impl_oneBlock → Option (List Int)
  | 0, _ => none
  | m + 1, s => B_impl_oneBlock impl_wordsOf impl_right (L_impl_oneBlock m) s
noncomputable def impl_oneBlock (state_0 : (List Int)) (block_1 : ByteArray) : Option (List Int) := E_impl_oneBlock impl_wordsOf impl_right (L_impl_oneBlock gas) state_0 block_1
theorem e_impl_oneBlock (impl_wordsOf : ByteArray → Option (List Int)) (impl_right : Int → Int → Option Int) : EntryIs ctx PP 200 [] [(211, H_impl_wordsOf impl_wordsOf), (212, H_impl_right impl_right)] cv56 cv54 at_impl_oneBlock (fun k a => E_impl_oneBlock impl_wordsOf impl_right k a.1 a.2) := fun stop a => by kernel_rfl
theorem b_impl_oneBlock (impl_wordsOf : ByteArray → Option (List Int)) (impl_right : Int → Int → Option Int) : CutIs ctx PP 200 Tryz.f200 [] [(211, H_impl_wordsOf impl_wordsOf), (212, H_impl_right impl_right)] cv54 at_impl_oneBlock (B_impl_oneBlock impl_wordsOf impl_right) := fun stop s => by cases s <;> kernel_rfl
theorem i_impl_oneBlock : ∀ s s', at_impl_oneBlock s = at_impl_oneBlock s' → s = s' := by
  intro s s' h
  cases s with
  | c0 v0 v1 v2 v3 v4 v5 v6 v7 v8 v9 v10 v11 => cases s' with
    | c0 w0 w1 w2 w3 w4 w5 w6 w7 w8 w9 w10 w11 => cases h; rfl
    | c1 w0 w1 w2 w3 => exact (region_ne 4 13 h (by kernel_rfl) (by kernel_rfl) rfl).elim
  | c1 v0 v1 v2 v3 => cases s' with
    | c0 w0 w1 w2 w3 w4 w5 w6 w7 w8 w9 w10 w11 => exact (region_ne 13 4 h (by kernel_rfl) (by kernel_rfl) rfl).elim
    | c1 w0 w1 w2 w3 => cases h; rfl
theorem ok_impl_oneBlock : Tells ctx PP 200 cv56 cv54 (fun a => impl_oneBlock a.1 a.2) := fn_ok (hl_cons h_impl_wordsOf (hl_cons h_impl_right hl_nil)) Tryz.func200 i_impl_oneBlock (fun _ => rfl) (fun _ _ => rfl) (b_impl_oneBlock impl_wordsOf impl_right) (e_impl_oneBlock impl_wordsOf impl_right) gas
noncomputable def H_impl_oneBlock {γ : Type} (F : (List Int) → ByteArray → Option (List Int)) : Hd ctx γ := hdl cv56.dec (fun a => F a.1 a.2) cv54.enc
theorem h_impl_oneBlock {γ : Type} : HdOk (γ := γ) PP 200 (H_impl_oneBlock impl_oneBlock) := hd_ok ok_impl_oneBlock
noncomputable def todo_impl_blocks_0 : List Go.Item := [.code (cAt (bodyOf Tryz.f171) [1, 0, 0, 0, 0, 0]), .code (cAt (bodyOf Tryz.f171) [1, 0, 0, 0, 0, 1]), .code (cAt (bodyOf Tryz.f171) [1, 0, 0, 0, 1]), .inLoop (cAt (bodyOf Tryz.f171) [1, 0, 0, 0]), .inBlock 0, .code (cAt (bodyOf Tryz.f171) [1, 1])]
inductive St_impl_blocks where
  | c0 (s_1 : ByteArray) (state_2r0 : (List Int)) (v_4r0 : (List Int))
noncomputable def at_impl_blocks : St_impl_blocks → LI
  | .c0 s_1 state_2r0 v_4r0 => (todo_impl_blocks_0, [(1, [.one (.str s_1)]), (2, [.one (.ptr 128 0)]), (4, [.one (.ptr 256 0)])], [(128, .ar 192 state_2r0), (256, .ar 192 v_4r0)])
noncomputable def E_impl_blocks (impl_oneBlock : (List Int) → ByteArray → Option (List Int)) (k : St_impl_blocks → Option ((List Int) × ByteArray)) (state_0 : (List Int)) (s_1 : ByteArray) : Option ((List Int) × ByteArray) :=
  k (.c0 s_1 state_0 [(0 : Int), (0 : Int), (0 : Int), (0 : Int), (0 : Int), (0 : Int), (0 : Int), (0 : Int)])
noncomputable def B_impl_blocks (impl_oneBlock : (List Int) → ByteArray → Option (List Int)) (k : St_impl_blocks → Option ((List Int) × ByteArray)) : St_impl_blocks → Option ((List Int) × ByteArray)
  | .c0 s_1 state_2r0 v_4r0 =>
    bif (decide ((s_1.size : Int) ≥ 64)) then
      bif (Nat.beq 8 state_2r0.length) then
      bif ((decide ((0 : Int) ≤ (64 : Int))) && (decide (64 ≤ (s_1.size : Int)))) then
      (impl_oneBlock state_2r0 (s_1.extract 0 (64 : Int).toNat)).bind fun r0 =>
      bif ((Nat.beq r0.length state_2r0.length) && (Nat.beq 8 r0.length)) then
      bif ((decide ((0 : Int) ≤ (64 : Int))) && (decide (64 ≤ (s_1.size : Int)))) then
      k (.c0 (s_1.extract (64 : Int).toNat s_1.size) r0 v_4r0)
      else none
      else none
      else none
      else none
    else
      bif (Nat.beq 8 state_2r0.length) then
      bif ((Nat.beq state_2r0.length v_4r0.length) && (Nat.beq 8 state_2r0.length)) then
      bif ((Nat.beq 8 state_2r0.length) && true) then
      some (state_2r0, s_1)
      else none
      else none
      else none
noncomputable def L_impl_blocks : Nat → St_impl_blocks → Option ((List Int) × ByteArray)
  | 0, _ => none
  | m + 1, s => B_impl_blocks impl_oneBlock (L_impl_blocks m) s
noncomputable def impl_blocks (state_0 : (List Int)) (s_1 : ByteArray) : Option ((List Int) × ByteArray) := E_impl_blocks impl_oneBlock (L_impl_blocks gas) state_0 s_1
theorem e_impl_blocks (impl_oneBlock : (List Int) → ByteArray → Option (List Int)) : EntryIs ctx PP 171 [] [(200, H_impl_oneBlock impl_oneBlock)] cv56 cv56 at_impl_blocks (fun k a => E_impl_blocks impl_oneBlock k a.1 a.2) := fun stop a => by kernel_rfl
theorem b_impl_blocks (impl_oneBlock : (List Int) → ByteArray → Option (List Int)) : CutIs ctx PP 171 Tryz.f171 [] [(200, H_impl_oneBlock impl_oneBlock)] cv56 at_impl_blocks (B_impl_blocks impl_oneBlock) := fun stop s => by cases s <;> kernel_rfl
theorem i_impl_blocks : ∀ s s', at_impl_blocks s = at_impl_blocks s' → s = s' := by
  intro s s' h
  cases s with
  | c0 v0 v1 v2 => cases s' with
    | c0 w0 w1 w2 => cases h; rfl
theorem ok_impl_blocks : Tells ctx PP 171 cv56 cv56 (fun a => impl_blocks a.1 a.2) := fn_ok (hl_cons h_impl_oneBlock hl_nil) Tryz.func171 i_impl_blocks (fun _ => rfl) (fun _ _ => rfl) (b_impl_blocks impl_oneBlock) (e_impl_blocks impl_oneBlock) gas
noncomputable def H_impl_blocks {γ : Type} (F : (List Int) → ByteArray → Option ((List Int) × ByteArray)) : Hd ctx γ := hdl cv56.dec (fun a => F a.1 a.2) cv56.enc
theorem h_impl_blocks {γ : Type} : HdOk (γ := γ) PP 171 (H_impl_blocks impl_blocks) := hd_ok ok_impl_blocks
noncomputable def todo_impl_stateText_0 : List Go.Item := [.code (cAt (bodyOf Tryz.f174) [1, 1, 0, 1, 0, 0, 0]), .code (cAt (bodyOf Tryz.f174) [1, 1, 0, 1, 0, 0, 1]), .inLoop (cAt (bodyOf Tryz.f174) [1, 1, 0, 1, 0, 0]), .inBlock 0, .code (cAt (bodyOf Tryz.f174) [1, 1, 1])]
inductive St_impl_stateText where
  | c0 (out_3 : ByteArray) (v_6 : (List Int)) (v_7 : Int)
noncomputable def at_impl_stateText : St_impl_stateText → LI
  | .c0 out_3 v_6 v_7 => (todo_impl_stateText_0, [(3, [.one (.str out_3)]), (6, [.arr 192 v_6]), (7, [.one (.int .i64 v_7)])], [])
noncomputable def E_impl_stateText (impl_fourBytes : Int → Option ByteArray) (k : St_impl_stateText → Option ByteArray) (state_0 : (List Int)) : Option ByteArray :=
  bif (Nat.beq 8 state_0.length) then
  k (.c0 (⟨#[]⟩ : ByteArray) state_0 (0 : Int))
  else none
noncomputable def B_impl_stateText (impl_fourBytes : Int → Option ByteArray) (k : St_impl_stateText → Option ByteArray) : St_impl_stateText → Option ByteArray
  | .c0 out_3 v_6 v_7 =>
    bif (decide (v_7 < 8)) then
      bif (Nat.beq 8 v_6.length) then
      bif ((decide (0 ≤ v_7)) && (decide (v_7 < (v_6.length : Int)))) then
      (impl_fourBytes (v_6.getD v_7.toNat 0)).bind fun r0 =>
      bif (decide ((out_3.size + r0.size) ≤ 9223372036854775807)) then
      k (.c0 (out_3 ++ r0) v_6 (w64 (v_7 + 1)))
      else none
      else none
      else none
    else
      some out_3
noncomputable def L_impl_stateText : Nat → St_impl_stateText → Option ByteArray
  | 0, _ => none
  | m + 1, s => B_impl_stateText impl_fourBytes (L_impl_stateText m) s
noncomputable def impl_stateText (state_0 : (List Int)) : Option ByteArray := E_impl_stateText impl_fourBytes (L_impl_stateText gas) state_0
theorem e_impl_stateText (impl_fourBytes : Int → Option ByteArray) : EntryIs ctx PP 174 [] [(161, H_impl_fourBytes impl_fourBytes)] cv54 cv11 at_impl_stateText (fun k a => E_impl_stateText impl_fourBytes k a) := fun stop a => by kernel_rfl
theorem b_impl_stateText (impl_fourBytes : Int → Option ByteArray) : CutIs ctx PP 174 Tryz.f174 [] [(161, H_impl_fourBytes impl_fourBytes)] cv11 at_impl_stateText (B_impl_stateText impl_fourBytes) := fun stop s => by cases s <;> kernel_rfl
theorem i_impl_stateText : ∀ s s', at_impl_stateText s = at_impl_stateText s' → s = s' := by
  intro s s' h
  cases s with
  | c0 v0 v1 v2 => cases s' with
    | c0 w0 w1 w2 => cases h; rfl
theorem ok_impl_stateText : Tells ctx PP 174 cv54 cv11 (fun a => impl_stateText a) := fn_ok (hl_cons h_impl_fourBytes hl_nil) Tryz.func174 i_impl_stateText (fun _ => rfl) (fun _ _ => rfl) (b_impl_stateText impl_fourBytes) (e_impl_stateText impl_fourBytes) gas
noncomputable def H_impl_stateText {γ : Type} (F : (List Int) → Option ByteArray) : Hd ctx γ := hdl cv54.dec (fun a => F a) cv11.enc
theorem h_impl_stateText {γ : Type} : HdOk (γ := γ) PP 174 (H_impl_stateText impl_stateText) := hd_ok ok_impl_stateText
noncomputable def E_impl_DigestOf (impl_firstState : Option (List Int)) (impl_ending : Int → Option ByteArray) (impl_blocks : (List Int) → ByteArray → Option ((List Int) × ByteArray)) (impl_stateText : (List Int) → Option ByteArray) (s_0 : ByteArray) : Option ByteArray :=
  impl_firstState.bind fun r0 =>
  (impl_ending (s_0.size : Int)).bind fun r1 =>
  bif (decide ((s_0.size + r1.size) ≤ 9223372036854775807)) then
  (impl_blocks r0 (s_0 ++ r1)).bind fun r2 =>
  bif ((Nat.beq r2.1.length 8) && (Nat.beq 8 r2.1.length)) then
  bif (Nat.beq 8 r2.1.length) then
  (impl_stateText r2.1).bind fun r3 =>
  some r3
  else none
  else none
  else none
noncomputable def impl_DigestOf (s_0 : ByteArray) : Option ByteArray := E_impl_DigestOf impl_firstState impl_ending impl_blocks impl_stateText s_0
theorem e_impl_DigestOf (impl_firstState : Option (List Int)) (impl_ending : Int → Option ByteArray) (impl_blocks : (List Int) → ByteArray → Option ((List Int) × ByteArray)) (impl_stateText : (List Int) → Option ByteArray) : EntryIs0 ctx PP 117 [] [(172, H_impl_firstState impl_firstState), (173, H_impl_ending impl_ending), (171, H_impl_blocks impl_blocks), (174, H_impl_stateText impl_stateText)] cv11 cv11 (fun a => E_impl_DigestOf impl_firstState impl_ending impl_blocks impl_stateText a) := fun a => by kernel_rfl
theorem ok_impl_DigestOf : Tells ctx PP 117 cv11 cv11 (fun a => impl_DigestOf a) := fn_ok0 (hl_cons h_impl_firstState (hl_cons h_impl_ending (hl_cons h_impl_blocks (hl_cons h_impl_stateText hl_nil)))) Tryz.func117 (e_impl_DigestOf impl_firstState impl_ending impl_blocks impl_stateText)
noncomputable def H_impl_DigestOf {γ : Type} (F : ByteArray → Option ByteArray) : Hd ctx γ := hdl cv11.dec (fun a => F a) cv11.enc
theorem h_impl_DigestOf {γ : Type} : HdOk (γ := γ) PP 117 (H_impl_DigestOf impl_DigestOf) := hd_ok ok_impl_DigestOf
noncomputable def todo_impl_xored_0 : List Go.Item := [.code (cAt (bodyOf Tryz.f207) [1, 1, 0, 1, 0, 0, 0]), .code (cAt (bodyOf Tryz.f207) [1, 1, 0, 1, 0, 0, 1]), .inLoop (cAt (bodyOf Tryz.f207) [1, 1, 0, 1, 0, 0]), .inBlock 0, .code (cAt (bodyOf Tryz.f207) [1, 1, 1])]
inductive St_impl_xored where
  | c0 (x_1 : Int) (v_10 : Int) (v_11 : Int) (out_5 : (List Int))
noncomputable def at_impl_xored : St_impl_xored → LI
  | .c0 x_1 v_10 v_11 out_5 => (todo_impl_xored_0, [(1, [.one (.int .u8 x_1)]), (5, [.one (.own 368)]), (10, [.one (.int .i64 v_10)]), (11, [.one (.int .i64 v_11)])], [(368, .sl 5 out_5)])
noncomputable def E_impl_xored  (k : St_impl_xored → Option ByteArray) (s_0 : ByteArray) (x_1 : Int) : Option ByteArray :=
  bif (decide (s_0.size ≤ 9223372036854775807)) then
  k (.c0 x_1 ((bytesOf s_0).length : Int) (0 : Int) (bytesOf s_0))
  else none
noncomputable def B_impl_xored  (k : St_impl_xored → Option ByteArray) : St_impl_xored → Option ByteArray
  | .c0 x_1 v_10 v_11 out_5 =>
    bif (decide (v_11 < v_10)) then
      bif ((decide (0 ≤ v_11)) && (decide (v_11 < (out_5.length : Int)))) then
      bif ((decide (0 ≤ v_11)) && (decide (v_11 < (out_5.length : Int)))) then
      k (.c0 x_1 v_10 (w64 (v_11 + 1)) (out_5.set v_11.toNat (w8 (((BitVec.toNat ((BitVec.ofInt (IntKind.bits IntKind.u8) (out_5.getD v_11.toNat 0)) ^^^ (BitVec.ofInt (IntKind.bits IntKind.u8) x_1))) : Nat) : Int))))
      else none
      else none
    else
      some (ofBytes out_5)
noncomputable def L_impl_xored : Nat → St_impl_xored → Option ByteArray
  | 0, _ => none
  | m + 1, s => B_impl_xored  (L_impl_xored m) s
noncomputable def impl_xored (s_0 : ByteArray) (x_1 : Int) : Option ByteArray := E_impl_xored  (L_impl_xored gas) s_0 x_1
theorem e_impl_xored  : EntryIs ctx PP 207 [] [] cv28 cv11 at_impl_xored (fun k a => E_impl_xored  k a.1 a.2) := fun stop a => by kernel_rfl
theorem b_impl_xored  : CutIs ctx PP 207 Tryz.f207 [] [] cv11 at_impl_xored (B_impl_xored ) := fun stop s => by cases s <;> kernel_rfl
theorem i_impl_xored : ∀ s s', at_impl_xored s = at_impl_xored s' → s = s' := by
  intro s s' h
  cases s with
  | c0 v0 v1 v2 v3 => cases s' with
    | c0 w0 w1 w2 w3 => cases h; rfl
theorem ok_impl_xored : Tells ctx PP 207 cv28 cv11 (fun a => impl_xored a.1 a.2) := fn_ok hl_nil Tryz.func207 i_impl_xored (fun _ => rfl) (fun _ _ => rfl) (b_impl_xored ) (e_impl_xored ) gas
noncomputable def H_impl_xored {γ : Type} (F : ByteArray → Int → Option ByteArray) : Hd ctx γ := hdl cv28.dec (fun a => F a.1 a.2) cv11.enc
theorem h_impl_xored {γ : Type} : HdOk (γ := γ) PP 207 (H_impl_xored impl_xored) := hd_ok ok_impl_xored
noncomputable def E_impl_MacOf (impl_DigestOf : ByteArray → Option ByteArray) (impl_zeros : Int → Option ByteArray) (impl_xored : ByteArray → Int → Option ByteArray) (key_0 : ByteArray) (s_1 : ByteArray) : Option ByteArray :=
  bif (decide ((key_0.size : Int) > 64)) then
    (impl_DigestOf key_0).bind fun r0 =>
    (impl_zeros (w64 (64 - (r0.size : Int)))).bind fun r1 =>
    bif (decide ((r0.size + r1.size) ≤ 9223372036854775807)) then
    (impl_xored (r0 ++ r1) (92 : Int)).bind fun r2 =>
    (impl_xored (r0 ++ r1) (54 : Int)).bind fun r3 =>
    bif (decide ((r3.size + s_1.size) ≤ 9223372036854775807)) then
    (impl_DigestOf (r3 ++ s_1)).bind fun r4 =>
    bif (decide ((r2.size + r4.size) ≤ 9223372036854775807)) then
    (impl_DigestOf (r2 ++ r4)).bind fun r5 =>
    some r5
    else none
    else none
    else none
  else
    (impl_zeros (w64 (64 - (key_0.size : Int)))).bind fun r6 =>
    bif (decide ((key_0.size + r6.size) ≤ 9223372036854775807)) then
    (impl_xored (key_0 ++ r6) (92 : Int)).bind fun r7 =>
    (impl_xored (key_0 ++ r6) (54 : Int)).bind fun r8 =>
    bif (decide ((r8.size + s_1.size) ≤ 9223372036854775807)) then
    (impl_DigestOf (r8 ++ s_1)).bind fun r9 =>
    bif (decide ((r7.size + r9.size) ≤ 9223372036854775807)) then
    (impl_DigestOf (r7 ++ r9)).bind fun r10 =>
    some r10
    else none
    else none
    else none
noncomputable def impl_MacOf (key_0 : ByteArray) (s_1 : ByteArray) : Option ByteArray := E_impl_MacOf impl_DigestOf impl_zeros impl_xored key_0 s_1
theorem e_impl_MacOf (impl_DigestOf : ByteArray → Option ByteArray) (impl_zeros : Int → Option ByteArray) (impl_xored : ByteArray → Int → Option ByteArray) : EntryIs0 ctx PP 194 [] [(117, H_impl_DigestOf impl_DigestOf), (118, H_impl_zeros impl_zeros), (207, H_impl_xored impl_xored)] cv29 cv11 (fun a => E_impl_MacOf impl_DigestOf impl_zeros impl_xored a.1 a.2) := fun a => by kernel_rfl
theorem ok_impl_MacOf : Tells ctx PP 194 cv29 cv11 (fun a => impl_MacOf a.1 a.2) := fn_ok0 (hl_cons h_impl_DigestOf (hl_cons h_impl_zeros (hl_cons h_impl_xored hl_nil))) Tryz.func194 (e_impl_MacOf impl_DigestOf impl_zeros impl_xored)
noncomputable def H_impl_MacOf {γ : Type} (F : ByteArray → ByteArray → Option ByteArray) : Hd ctx γ := hdl cv29.dec (fun a => F a.1 a.2) cv11.enc
theorem h_impl_MacOf {γ : Type} : HdOk (γ := γ) PP 194 (H_impl_MacOf impl_MacOf) := hd_ok ok_impl_MacOf
noncomputable def todo_impl_Mask_0 : List Go.Item := [.code (cAt (bodyOf Tryz.f163) [1, 1, 1, 1, 0, 1, 0, 0, 0, 0]), .code (cAt (bodyOf Tryz.f163) [1, 1, 1, 1, 0, 1, 0, 0, 0, 1]), .code (cAt (bodyOf Tryz.f163) [1, 1, 1, 1, 0, 1, 0, 0, 1]), .inLoop (cAt (bodyOf Tryz.f163) [1, 1, 1, 1, 0, 1, 0, 0]), .inBlock 0, .code (cAt (bodyOf Tryz.f163) [1, 1, 1, 1, 1])]
inductive St_impl_Mask where
  | c0 (key_0 : ByteArray) (n_2 : Int) (v_8 : ByteArray) (out_10 : ByteArray) (i_11 : Int)
noncomputable def at_impl_Mask : St_impl_Mask → LI
  | .c0 key_0 n_2 v_8 out_10 i_11 => (todo_impl_Mask_0, [(0, [.one (.str key_0)]), (2, [.one (.int .i64 n_2)]), (8, [.one (.str v_8)]), (10, [.one (.str out_10)]), (11, [.one (.int .i64 i_11)])], [])
noncomputable def E_impl_Mask (impl_VarText : Int → Option (ByteArray × Bool)) (impl_in : Int → Int → Int → Option Bool) (impl_oneByte : Int → Option ByteArray) (impl_MacOf : ByteArray → ByteArray → Option ByteArray) (k : St_impl_Mask → Option (ByteArray × Bool)) (key_0 : ByteArray) (num_1 : Int) (n_2 : Int) : Option (ByteArray × Bool) :=
  (impl_VarText num_1).bind fun r0 =>
  bif (!r0.2) then
    some ((⟨#[]⟩ : ByteArray), false)
  else
    (impl_in n_2 (0 : Int) (8000 : Int)).bind fun r1 =>
    bif (!r1) then
      some ((⟨#[]⟩ : ByteArray), false)
    else
      k (.c0 key_0 n_2 r0.1 (⟨#[]⟩ : ByteArray) (0 : Int))
noncomputable def B_impl_Mask (impl_VarText : Int → Option (ByteArray × Bool)) (impl_in : Int → Int → Int → Option Bool) (impl_oneByte : Int → Option ByteArray) (impl_MacOf : ByteArray → ByteArray → Option ByteArray) (k : St_impl_Mask → Option (ByteArray × Bool)) : St_impl_Mask → Option (ByteArray × Bool)
  | .c0 key_0 n_2 v_8 out_10 i_11 =>
    bif (decide ((out_10.size : Int) < n_2)) then
      bif (decide (((⟨#[109]⟩ : ByteArray).size + v_8.size) ≤ 9223372036854775807)) then
      (impl_oneByte i_11).bind fun r0 =>
      bif (decide ((((⟨#[109]⟩ : ByteArray) ++ v_8).size + r0.size) ≤ 9223372036854775807)) then
      (impl_MacOf key_0 (((⟨#[109]⟩ : ByteArray) ++ v_8) ++ r0)).bind fun r1 =>
      bif (decide ((out_10.size + r1.size) ≤ 9223372036854775807)) then
      k (.c0 key_0 n_2 v_8 (out_10 ++ r1) (w64 (i_11 + 1)))
      else none
      else none
      else none
    else
      bif ((decide (0 ≤ n_2)) && (decide (n_2 ≤ (out_10.size : Int)))) then
      some ((out_10.extract 0 n_2.toNat), true)
      else none
noncomputable def L_impl_Mask : Nat → St_impl_Mask → Option (ByteArray × Bool)
  | 0, _ => none
  | m + 1, s => B_impl_Mask impl_VarText impl_in impl_oneByte impl_MacOf (L_impl_Mask m) s
noncomputable def impl_Mask (key_0 : ByteArray) (num_1 : Int) (n_2 : Int) : Option (ByteArray × Bool) := E_impl_Mask impl_VarText impl_in impl_oneByte impl_MacOf (L_impl_Mask gas) key_0 num_1 n_2
theorem e_impl_Mask (impl_VarText : Int → Option (ByteArray × Bool)) (impl_in : Int → Int → Int → Option Bool) (impl_oneByte : Int → Option ByteArray) (impl_MacOf : ByteArray → ByteArray → Option ByteArray) : EntryIs ctx PP 163 [] [(193, H_impl_VarText impl_VarText), (67, H_impl_in impl_in), (195, H_impl_oneByte impl_oneByte), (194, H_impl_MacOf impl_MacOf)] cv30 cv14 at_impl_Mask (fun k a => E_impl_Mask impl_VarText impl_in impl_oneByte impl_MacOf k a.1 a.2.1 a.2.2) := fun stop a => by kernel_rfl
theorem b_impl_Mask (impl_VarText : Int → Option (ByteArray × Bool)) (impl_in : Int → Int → Int → Option Bool) (impl_oneByte : Int → Option ByteArray) (impl_MacOf : ByteArray → ByteArray → Option ByteArray) : CutIs ctx PP 163 Tryz.f163 [] [(193, H_impl_VarText impl_VarText), (67, H_impl_in impl_in), (195, H_impl_oneByte impl_oneByte), (194, H_impl_MacOf impl_MacOf)] cv14 at_impl_Mask (B_impl_Mask impl_VarText impl_in impl_oneByte impl_MacOf) := fun stop s => by cases s <;> kernel_rfl
theorem i_impl_Mask : ∀ s s', at_impl_Mask s = at_impl_Mask s' → s = s' := by
  intro s s' h
  cases s with
  | c0 v0 v1 v2 v3 v4 => cases s' with
    | c0 w0 w1 w2 w3 w4 => cases h; rfl
theorem ok_impl_Mask : Tells ctx PP 163 cv30 cv14 (fun a => impl_Mask a.1 a.2.1 a.2.2) := fn_ok (hl_cons h_impl_VarText (hl_cons h_impl_in (hl_cons h_impl_oneByte (hl_cons h_impl_MacOf hl_nil)))) Tryz.func163 i_impl_Mask (fun _ => rfl) (fun _ _ => rfl) (b_impl_Mask impl_VarText impl_in impl_oneByte impl_MacOf) (e_impl_Mask impl_VarText impl_in impl_oneByte impl_MacOf) gas
noncomputable def H_impl_Mask {γ : Type} (F : ByteArray → Int → Int → Option (ByteArray × Bool)) : Hd ctx γ := hdl cv30.dec (fun a => F a.1 a.2.1 a.2.2) cv14.enc
theorem h_impl_Mask {γ : Type} : HdOk (γ := γ) PP 163 (H_impl_Mask impl_Mask) := hd_ok ok_impl_Mask
noncomputable def E_impl_tag (impl_varText : Int → Option ByteArray) (impl_MacOf : ByteArray → ByteArray → Option ByteArray) (key_0 : ByteArray) (num_1 : Int) (s_2 : ByteArray) : Option ByteArray :=
  (impl_varText num_1).bind fun r0 =>
  bif (decide (((⟨#[116]⟩ : ByteArray).size + r0.size) ≤ 9223372036854775807)) then
  bif (decide ((((⟨#[116]⟩ : ByteArray) ++ r0).size + s_2.size) ≤ 9223372036854775807)) then
  (impl_MacOf key_0 (((⟨#[116]⟩ : ByteArray) ++ r0) ++ s_2)).bind fun r1 =>
  bif ((decide ((0 : Int) ≤ (16 : Int))) && (decide (16 ≤ (r1.size : Int)))) then
  some (r1.extract 0 (16 : Int).toNat)
  else none
  else none
  else none
noncomputable def impl_tag (key_0 : ByteArray) (num_1 : Int) (s_2 : ByteArray) : Option ByteArray := E_impl_tag impl_varText impl_MacOf key_0 num_1 s_2
theorem e_impl_tag (impl_varText : Int → Option ByteArray) (impl_MacOf : ByteArray → ByteArray → Option ByteArray) : EntryIs0 ctx PP 164 [] [(168, H_impl_varText impl_varText), (194, H_impl_MacOf impl_MacOf)] cv31 cv11 (fun a => E_impl_tag impl_varText impl_MacOf a.1 a.2.1 a.2.2) := fun a => by kernel_rfl
theorem ok_impl_tag : Tells ctx PP 164 cv31 cv11 (fun a => impl_tag a.1 a.2.1 a.2.2) := fn_ok0 (hl_cons h_impl_varText (hl_cons h_impl_MacOf hl_nil)) Tryz.func164 (e_impl_tag impl_varText impl_MacOf)
noncomputable def H_impl_tag {γ : Type} (F : ByteArray → Int → ByteArray → Option ByteArray) : Hd ctx γ := hdl cv31.dec (fun a => F a.1 a.2.1 a.2.2) cv11.enc
theorem h_impl_tag {γ : Type} : HdOk (γ := γ) PP 164 (H_impl_tag impl_tag) := hd_ok ok_impl_tag
noncomputable def todo_impl_both_0 : List Go.Item := [.code (cAt (bodyOf Tryz.f165) [1, 1, 0, 1, 0, 0, 0]), .code (cAt (bodyOf Tryz.f165) [1, 1, 0, 1, 0, 0, 1]), .inLoop (cAt (bodyOf Tryz.f165) [1, 1, 0, 1, 0, 0]), .inBlock 0, .code (cAt (bodyOf Tryz.f165) [1, 1, 1])]
inductive St_impl_both where
  | c0 (b_1 : ByteArray) (v_10 : Int) (v_11 : Int) (out_5 : (List Int))
noncomputable def at_impl_both : St_impl_both → LI
  | .c0 b_1 v_10 v_11 out_5 => (todo_impl_both_0, [(1, [.one (.str b_1)]), (5, [.one (.own 368)]), (10, [.one (.int .i64 v_10)]), (11, [.one (.int .i64 v_11)])], [(368, .sl 5 out_5)])
noncomputable def E_impl_both  (k : St_impl_both → Option ByteArray) (a_0 : ByteArray) (b_1 : ByteArray) : Option ByteArray :=
  bif (decide (a_0.size ≤ 9223372036854775807)) then
  k (.c0 b_1 ((bytesOf a_0).length : Int) (0 : Int) (bytesOf a_0))
  else none
noncomputable def B_impl_both  (k : St_impl_both → Option ByteArray) : St_impl_both → Option ByteArray
  | .c0 b_1 v_10 v_11 out_5 =>
    bif (decide (v_11 < v_10)) then
      bif ((decide (0 ≤ v_11)) && (decide (v_11 < (out_5.length : Int)))) then
      bif ((decide (0 ≤ v_11)) && (decide (v_11 < (b_1.size : Int)))) then
      bif ((decide (0 ≤ v_11)) && (decide (v_11 < (out_5.length : Int)))) then
      k (.c0 b_1 v_10 (w64 (v_11 + 1)) (out_5.set v_11.toNat (w8 (((BitVec.toNat ((BitVec.ofInt (IntKind.bits IntKind.u8) (out_5.getD v_11.toNat 0)) ^^^ (BitVec.ofInt (IntKind.bits IntKind.u8) (bt b_1 v_11)))) : Nat) : Int))))
      else none
      else none
      else none
    else
      some (ofBytes out_5)
noncomputable def L_impl_both : Nat → St_impl_both → Option ByteArray
  | 0, _ => none
  | m + 1, s => B_impl_both  (L_impl_both m) s
noncomputable def impl_both (a_0 : ByteArray) (b_1 : ByteArray) : Option ByteArray := E_impl_both  (L_impl_both gas) a_0 b_1
theorem e_impl_both  : EntryIs ctx PP 165 [] [] cv29 cv11 at_impl_both (fun k a => E_impl_both  k a.1 a.2) := fun stop a => by kernel_rfl
theorem b_impl_both  : CutIs ctx PP 165 Tryz.f165 [] [] cv11 at_impl_both (B_impl_both ) := fun stop s => by cases s <;> kernel_rfl
theorem i_impl_both : ∀ s s', at_impl_both s = at_impl_both s' → s = s' := by
  intro s s' h
  cases s with
  | c0 v0 v1 v2 v3 => cases s' with
    | c0 w0 w1 w2 w3 => cases h; rfl
theorem ok_impl_both : Tells ctx PP 165 cv29 cv11 (fun a => impl_both a.1 a.2) := fn_ok hl_nil Tryz.func165 i_impl_both (fun _ => rfl) (fun _ _ => rfl) (b_impl_both ) (e_impl_both ) gas
noncomputable def H_impl_both {γ : Type} (F : ByteArray → ByteArray → Option ByteArray) : Hd ctx γ := hdl cv29.dec (fun a => F a.1 a.2) cv11.enc
theorem h_impl_both {γ : Type} : HdOk (γ := γ) PP 165 (H_impl_both impl_both) := hd_ok ok_impl_both
noncomputable def E_impl_OpenText (impl_Mask : ByteArray → Int → Int → Option (ByteArray × Bool)) (impl_tag : ByteArray → Int → ByteArray → Option ByteArray) (impl_both : ByteArray → ByteArray → Option ByteArray) (key_0 : ByteArray) (num_1 : Int) (text_2 : ByteArray) : Option (ByteArray × Bool) :=
  bif (decide ((w64 ((text_2.size : Int) - 16)) < 0)) then
    some ((⟨#[]⟩ : ByteArray), false)
  else
    (impl_Mask key_0 num_1 (w64 ((text_2.size : Int) - 16))).bind fun r0 =>
    bif (!r0.2) then
      some ((⟨#[]⟩ : ByteArray), false)
    else
      bif ((decide (0 ≤ (w64 ((text_2.size : Int) - 16)))) && (decide ((w64 ((text_2.size : Int) - 16)) ≤ (text_2.size : Int)))) then
      (impl_tag key_0 num_1 (text_2.extract 0 (w64 ((text_2.size : Int) - 16)).toNat)).bind fun r1 =>
      bif ((decide (0 ≤ (w64 ((text_2.size : Int) - 16)))) && (decide ((w64 ((text_2.size : Int) - 16)) ≤ (text_2.size : Int)))) then
      bif (!((ByteArray.toList r1) == (ByteArray.toList (text_2.extract (w64 ((text_2.size : Int) - 16)).toNat text_2.size)))) then
        some ((⟨#[]⟩ : ByteArray), false)
      else
        bif ((decide (0 ≤ (w64 ((text_2.size : Int) - 16)))) && (decide ((w64 ((text_2.size : Int) - 16)) ≤ (text_2.size : Int)))) then
        (impl_both (text_2.extract 0 (w64 ((text_2.size : Int) - 16)).toNat) r0.1).bind fun r2 =>
        some (r2, true)
        else none
      else none
      else none
noncomputable def impl_OpenText (key_0 : ByteArray) (num_1 : Int) (text_2 : ByteArray) : Option (ByteArray × Bool) := E_impl_OpenText impl_Mask impl_tag impl_both key_0 num_1 text_2
theorem e_impl_OpenText (impl_Mask : ByteArray → Int → Int → Option (ByteArray × Bool)) (impl_tag : ByteArray → Int → ByteArray → Option ByteArray) (impl_both : ByteArray → ByteArray → Option ByteArray) : EntryIs0 ctx PP 112 [] [(163, H_impl_Mask impl_Mask), (164, H_impl_tag impl_tag), (165, H_impl_both impl_both)] cv31 cv14 (fun a => E_impl_OpenText impl_Mask impl_tag impl_both a.1 a.2.1 a.2.2) := fun a => by kernel_rfl
theorem ok_impl_OpenText : Tells ctx PP 112 cv31 cv14 (fun a => impl_OpenText a.1 a.2.1 a.2.2) := fn_ok0 (hl_cons h_impl_Mask (hl_cons h_impl_tag (hl_cons h_impl_both hl_nil))) Tryz.func112 (e_impl_OpenText impl_Mask impl_tag impl_both)
noncomputable def H_impl_OpenText {γ : Type} (F : ByteArray → Int → ByteArray → Option (ByteArray × Bool)) : Hd ctx γ := hdl cv31.dec (fun a => F a.1 a.2.1 a.2.2) cv14.enc
theorem h_impl_OpenText {γ : Type} : HdOk (γ := γ) PP 112 (H_impl_OpenText impl_OpenText) := hd_ok ok_impl_OpenText
noncomputable def E_impl_fields_num (impl_ReadVar : ByteArray → Int → Option (Int × Int × Bool)) (f_0 : SFields) : Option (Int × SFields) :=
  (impl_ReadVar f_0.fText f_0.fAt).bind fun r0 =>
  bif (!r0.2.2) then
    some ((0 : Int), (⟨f_0.fText, f_0.fAt, true⟩ : SFields))
  else
    some (r0.1, (⟨f_0.fText, r0.2.1, f_0.fBad⟩ : SFields))
noncomputable def impl_fields_num (f_0 : SFields) : Option (Int × SFields) := E_impl_fields_num impl_ReadVar f_0
theorem e_impl_fields_num (impl_ReadVar : ByteArray → Int → Option (Int × Int × Bool)) : EntryIs0 ctx PP 196 [0] [(160, H_impl_ReadVar impl_ReadVar)] cv57 cv58 (fun a => E_impl_fields_num impl_ReadVar a) := fun a => by kernel_rfl
theorem ok_impl_fields_num : Tells ctx PP 196 cv57 cv58 (fun a => impl_fields_num a) := fn_ok0 (hl_cons h_impl_ReadVar hl_nil) Tryz.func196 (e_impl_fields_num impl_ReadVar)
noncomputable def H_impl_fields_num {γ : Type} (F : SFields → Option (Int × SFields)) : Hd ctx γ := hdl cv57.dec (fun a => F a) cv58.enc
theorem h_impl_fields_num {γ : Type} : HdOk (γ := γ) PP 196 (H_impl_fields_num impl_fields_num) := hd_ok ok_impl_fields_num
noncomputable def E_impl_ReadShort (impl_ReadVar : ByteArray → Int → Option (Int × Int × Bool)) (text_0 : ByteArray) (at_1 : Int) : Option (ByteArray × Int × Bool) :=
  (impl_ReadVar text_0 at_1).bind fun r0 =>
  bif (!r0.2.2) then
    some ((⟨#[]⟩ : ByteArray), ((0 : Int), false))
  else
    bif (decide (r0.1 > 20000)) then
      some ((⟨#[]⟩ : ByteArray), ((0 : Int), false))
    else
      bif (decide (r0.1 > (w64 ((text_0.size : Int) - r0.2.1)))) then
        some ((⟨#[]⟩ : ByteArray), ((0 : Int), false))
      else
        bif (((decide (0 ≤ r0.2.1)) && (decide (r0.2.1 ≤ (w64 (r0.2.1 + r0.1))))) && (decide ((w64 (r0.2.1 + r0.1)) ≤ (text_0.size : Int)))) then
        some ((text_0.extract r0.2.1.toNat (w64 (r0.2.1 + r0.1)).toNat), ((w64 (r0.2.1 + r0.1)), true))
        else none
noncomputable def impl_ReadShort (text_0 : ByteArray) (at_1 : Int) : Option (ByteArray × Int × Bool) := E_impl_ReadShort impl_ReadVar text_0 at_1
theorem e_impl_ReadShort (impl_ReadVar : ByteArray → Int → Option (Int × Int × Bool)) : EntryIs0 ctx PP 208 [] [(160, H_impl_ReadVar impl_ReadVar)] cv15 cv59 (fun a => E_impl_ReadShort impl_ReadVar a.1 a.2) := fun a => by kernel_rfl
theorem ok_impl_ReadShort : Tells ctx PP 208 cv15 cv59 (fun a => impl_ReadShort a.1 a.2) := fn_ok0 (hl_cons h_impl_ReadVar hl_nil) Tryz.func208 (e_impl_ReadShort impl_ReadVar)
noncomputable def H_impl_ReadShort {γ : Type} (F : ByteArray → Int → Option (ByteArray × Int × Bool)) : Hd ctx γ := hdl cv15.dec (fun a => F a.1 a.2) cv59.enc
theorem h_impl_ReadShort {γ : Type} : HdOk (γ := γ) PP 208 (H_impl_ReadShort impl_ReadShort) := hd_ok ok_impl_ReadShort
noncomputable def E_impl_fields_short (impl_ReadShort : ByteArray → Int → Option (ByteArray × Int × Bool)) (f_0 : SFields) : Option (ByteArray × SFields) :=
  (impl_ReadShort f_0.fText f_0.fAt).bind fun r0 =>
  bif (!r0.2.2) then
    some ((⟨#[]⟩ : ByteArray), (⟨f_0.fText, f_0.fAt, true⟩ : SFields))
  else
    some (r0.1, (⟨f_0.fText, r0.2.1, f_0.fBad⟩ : SFields))
noncomputable def impl_fields_short (f_0 : SFields) : Option (ByteArray × SFields) := E_impl_fields_short impl_ReadShort f_0
theorem e_impl_fields_short (impl_ReadShort : ByteArray → Int → Option (ByteArray × Int × Bool)) : EntryIs0 ctx PP 197 [0] [(208, H_impl_ReadShort impl_ReadShort)] cv57 cv60 (fun a => E_impl_fields_short impl_ReadShort a) := fun a => by kernel_rfl
theorem ok_impl_fields_short : Tells ctx PP 197 cv57 cv60 (fun a => impl_fields_short a) := fn_ok0 (hl_cons h_impl_ReadShort hl_nil) Tryz.func197 (e_impl_fields_short impl_ReadShort)
noncomputable def H_impl_fields_short {γ : Type} (F : SFields → Option (ByteArray × SFields)) : Hd ctx γ := hdl cv57.dec (fun a => F a) cv60.enc
theorem h_impl_fields_short {γ : Type} : HdOk (γ := γ) PP 197 (H_impl_fields_short impl_fields_short) := hd_ok ok_impl_fields_short
noncomputable def E_impl_ThingOk (impl_in : Int → Int → Int → Option Bool) (x_0 : SThing) : Option Bool :=
  (impl_in x_0.fId (1 : Int) (1000 : Int)).bind fun r0 =>
  bif (!r0) then
    some false
  else
    (impl_in x_0.fNext (0 : Int) (16 : Int)).bind fun r1 =>
    bif (!r1) then
      some false
    else
      bif (x_0.fKind != 2) then
        bif (x_0.fNext != 0) then
          some false
        else
          bif x_0.fSigns then
            some false
          else
            bif (x_0.fKind != 1) then
              bif x_0.fWraps then
                some false
              else
                bif (x_0.fKind == 1) then
                  bif (x_0.fKind == 1) then
                    some ((x_0.fValue.size : Int) == 32)
                  else
                    bif (x_0.fKind == 3) then
                      some (decide ((x_0.fValue.size : Int) ≤ 100))
                    else
                      some false
                else
                  bif (x_0.fKind == 2) then
                    some ((x_0.fValue.size : Int) == 32)
                  else
                    bif (x_0.fKind == 3) then
                      some (decide ((x_0.fValue.size : Int) ≤ 100))
                    else
                      some false
            else
              bif (x_0.fKind == 1) then
                bif (x_0.fKind == 1) then
                  some ((x_0.fValue.size : Int) == 32)
                else
                  bif (x_0.fKind == 3) then
                    some (decide ((x_0.fValue.size : Int) ≤ 100))
                  else
                    some false
              else
                bif (x_0.fKind == 2) then
                  some ((x_0.fValue.size : Int) == 32)
                else
                  bif (x_0.fKind == 3) then
                    some (decide ((x_0.fValue.size : Int) ≤ 100))
                  else
                    some false
      else
        bif (x_0.fKind != 1) then
          bif x_0.fWraps then
            some false
          else
            bif (x_0.fKind == 1) then
              bif (x_0.fKind == 1) then
                some ((x_0.fValue.size : Int) == 32)
              else
                bif (x_0.fKind == 3) then
                  some (decide ((x_0.fValue.size : Int) ≤ 100))
                else
                  some false
            else
              bif (x_0.fKind == 2) then
                some ((x_0.fValue.size : Int) == 32)
              else
                bif (x_0.fKind == 3) then
                  some (decide ((x_0.fValue.size : Int) ≤ 100))
                else
                  some false
        else
          bif (x_0.fKind == 1) then
            bif (x_0.fKind == 1) then
              some ((x_0.fValue.size : Int) == 32)
            else
              bif (x_0.fKind == 3) then
                some (decide ((x_0.fValue.size : Int) ≤ 100))
              else
                some false
          else
            bif (x_0.fKind == 2) then
              some ((x_0.fValue.size : Int) == 32)
            else
              bif (x_0.fKind == 3) then
                some (decide ((x_0.fValue.size : Int) ≤ 100))
              else
                some false
noncomputable def impl_ThingOk (x_0 : SThing) : Option Bool := E_impl_ThingOk impl_in x_0
theorem e_impl_ThingOk (impl_in : Int → Int → Int → Option Bool) : EntryIs0 ctx PP 128 [] [(67, H_impl_in impl_in)] cv36 cv10 (fun a => E_impl_ThingOk impl_in a) := fun a => by kernel_rfl
theorem ok_impl_ThingOk : Tells ctx PP 128 cv36 cv10 (fun a => impl_ThingOk a) := fn_ok0 (hl_cons h_impl_in hl_nil) Tryz.func128 (e_impl_ThingOk impl_in)
noncomputable def H_impl_ThingOk {γ : Type} (F : SThing → Option Bool) : Hd ctx γ := hdl cv36.dec (fun a => F a) cv10.enc
theorem h_impl_ThingOk {γ : Type} : HdOk (γ := γ) PP 128 (H_impl_ThingOk impl_ThingOk) := hd_ok ok_impl_ThingOk
noncomputable def todo_impl_flags_0 : List Go.Item := [.code (cAt (bodyOf Tryz.f209) [1, 1, 0, 1, 0, 0, 0]), .code (cAt (bodyOf Tryz.f209) [1, 1, 0, 1, 0, 0, 1]), .inLoop (cAt (bodyOf Tryz.f209) [1, 1, 0, 1, 0, 0]), .inBlock 0, .code (cAt (bodyOf Tryz.f209) [1, 1, 1])]
inductive St_impl_flags where
  | c0 (n_3 : Int) (v_15 : Int) (v_16 : Int) (v_14 : (List Bool))
noncomputable def at_impl_flags : St_impl_flags → LI
  | .c0 n_3 v_15 v_16 v_14 => (todo_impl_flags_0, [(3, [.one (.int .i64 n_3)]), (14, [.one (.own 944)]), (15, [.one (.int .i64 v_15)]), (16, [.one (.int .i64 v_16)])], [(944, .sl 4 v_14)])
noncomputable def E_impl_flags  (k : St_impl_flags → Option Int) (x_0 : SThing) : Option Int :=
  k (.c0 (0 : Int) ((4 : Nat) : Int) (0 : Int) [x_0.fHidden, x_0.fFixed, x_0.fSigns, x_0.fWraps])
noncomputable def B_impl_flags  (k : St_impl_flags → Option Int) : St_impl_flags → Option Int
  | .c0 n_3 v_15 v_16 v_14 =>
    bif (decide (v_16 < v_15)) then
      bif ((decide (0 ≤ v_16)) && (decide (v_16 < (v_14.length : Int)))) then
      bif (v_14.getD v_16.toNat false) then
        bif (decide (0 ≤ v_16)) then
        k (.c0 (w64 (((BitVec.toNat ((BitVec.ofInt (IntKind.bits IntKind.i64) n_3) ||| (BitVec.ofInt (IntKind.bits IntKind.i64) (w64 (1 * (2 ^ (Min.min v_16.toNat (IntKind.bits IntKind.i64)))))))) : Nat) : Int)) v_15 (w64 (v_16 + 1)) v_14)
        else none
      else
        k (.c0 n_3 v_15 (w64 (v_16 + 1)) v_14)
      else none
    else
      some n_3
noncomputable def L_impl_flags : Nat → St_impl_flags → Option Int
  | 0, _ => none
  | m + 1, s => B_impl_flags  (L_impl_flags m) s
noncomputable def impl_flags (x_0 : SThing) : Option Int := E_impl_flags  (L_impl_flags gas) x_0
theorem e_impl_flags  : EntryIs ctx PP 209 [] [] cv36 cv1 at_impl_flags (fun k a => E_impl_flags  k a) := fun stop a => by kernel_rfl
theorem b_impl_flags  : CutIs ctx PP 209 Tryz.f209 [] [] cv1 at_impl_flags (B_impl_flags ) := fun stop s => by cases s <;> kernel_rfl
theorem i_impl_flags : ∀ s s', at_impl_flags s = at_impl_flags s' → s = s' := by
  intro s s' h
  cases s with
  | c0 v0 v1 v2 v3 => cases s' with
    | c0 w0 w1 w2 w3 => cases h; rfl
theorem ok_impl_flags : Tells ctx PP 209 cv36 cv1 (fun a => impl_flags a) := fn_ok hl_nil Tryz.func209 i_impl_flags (fun _ => rfl) (fun _ _ => rfl) (b_impl_flags ) (e_impl_flags ) gas
noncomputable def H_impl_flags {γ : Type} (F : SThing → Option Int) : Hd ctx γ := hdl cv36.dec (fun a => F a) cv1.enc
theorem h_impl_flags {γ : Type} : HdOk (γ := γ) PP 209 (H_impl_flags impl_flags) := hd_ok ok_impl_flags
noncomputable def E_impl_shortText (impl_varText : Int → Option ByteArray) (s_0 : ByteArray) : Option ByteArray :=
  (impl_varText (s_0.size : Int)).bind fun r0 =>
  bif (decide ((r0.size + s_0.size) ≤ 9223372036854775807)) then
  some (r0 ++ s_0)
  else none
noncomputable def impl_shortText (s_0 : ByteArray) : Option ByteArray := E_impl_shortText impl_varText s_0
theorem e_impl_shortText (impl_varText : Int → Option ByteArray) : EntryIs0 ctx PP 210 [] [(168, H_impl_varText impl_varText)] cv11 cv11 (fun a => E_impl_shortText impl_varText a) := fun a => by kernel_rfl
theorem ok_impl_shortText : Tells ctx PP 210 cv11 cv11 (fun a => impl_shortText a) := fn_ok0 (hl_cons h_impl_varText hl_nil) Tryz.func210 (e_impl_shortText impl_varText)
noncomputable def H_impl_shortText {γ : Type} (F : ByteArray → Option ByteArray) : Hd ctx γ := hdl cv11.dec (fun a => F a) cv11.enc
theorem h_impl_shortText {γ : Type} : HdOk (γ := γ) PP 210 (H_impl_shortText impl_shortText) := hd_ok ok_impl_shortText
noncomputable def E_impl_ThingText (impl_ThingOk : SThing → Option Bool) (impl_varText : Int → Option ByteArray) (impl_oneByte : Int → Option ByteArray) (impl_flags : SThing → Option Int) (impl_shortText : ByteArray → Option ByteArray) (x_0 : SThing) : Option (ByteArray × Bool) :=
  (impl_ThingOk x_0).bind fun r0 =>
  bif (!r0) then
    some ((⟨#[]⟩ : ByteArray), false)
  else
    (impl_varText x_0.fId).bind fun r1 =>
    (impl_oneByte x_0.fKind).bind fun r2 =>
    bif (decide ((r1.size + r2.size) ≤ 9223372036854775807)) then
    (impl_flags x_0).bind fun r3 =>
    (impl_oneByte r3).bind fun r4 =>
    bif (decide (((r1 ++ r2).size + r4.size) ≤ 9223372036854775807)) then
    (impl_shortText x_0.fValue).bind fun r5 =>
    bif (decide ((((r1 ++ r2) ++ r4).size + r5.size) ≤ 9223372036854775807)) then
    (impl_varText x_0.fNext).bind fun r6 =>
    bif (decide (((((r1 ++ r2) ++ r4) ++ r5).size + r6.size) ≤ 9223372036854775807)) then
    some (((((r1 ++ r2) ++ r4) ++ r5) ++ r6), true)
    else none
    else none
    else none
    else none
noncomputable def impl_ThingText (x_0 : SThing) : Option (ByteArray × Bool) := E_impl_ThingText impl_ThingOk impl_varText impl_oneByte impl_flags impl_shortText x_0
theorem e_impl_ThingText (impl_ThingOk : SThing → Option Bool) (impl_varText : Int → Option ByteArray) (impl_oneByte : Int → Option ByteArray) (impl_flags : SThing → Option Int) (impl_shortText : ByteArray → Option ByteArray) : EntryIs0 ctx PP 198 [] [(128, H_impl_ThingOk impl_ThingOk), (168, H_impl_varText impl_varText), (195, H_impl_oneByte impl_oneByte), (209, H_impl_flags impl_flags), (210, H_impl_shortText impl_shortText)] cv36 cv14 (fun a => E_impl_ThingText impl_ThingOk impl_varText impl_oneByte impl_flags impl_shortText a) := fun a => by kernel_rfl
theorem ok_impl_ThingText : Tells ctx PP 198 cv36 cv14 (fun a => impl_ThingText a) := fn_ok0 (hl_cons h_impl_ThingOk (hl_cons h_impl_varText (hl_cons h_impl_oneByte (hl_cons h_impl_flags (hl_cons h_impl_shortText hl_nil))))) Tryz.func198 (e_impl_ThingText impl_ThingOk impl_varText impl_oneByte impl_flags impl_shortText)
noncomputable def H_impl_ThingText {γ : Type} (F : SThing → Option (ByteArray × Bool)) : Hd ctx γ := hdl cv36.dec (fun a => F a) cv14.enc
theorem h_impl_ThingText {γ : Type} : HdOk (γ := γ) PP 198 (H_impl_ThingText impl_ThingText) := hd_ok ok_impl_ThingText
noncomputable def E_impl_ReadThing (impl_fields_num : SFields → Option (Int × SFields)) (impl_fields_short : SFields → Option (ByteArray × SFields)) (impl_ThingText : SThing → Option (ByteArray × Bool)) (text_0 : ByteArray) : Option (SThing × Bool) :=
  (impl_fields_num (⟨text_0, (0 : Int), false⟩ : SFields)).bind fun r0 =>
  (impl_fields_num r0.2).bind fun r1 =>
  (impl_fields_num r1.2).bind fun r2 =>
  (impl_fields_short r2.2).bind fun r3 =>
  (impl_fields_num r3.2).bind fun r4 =>
  (impl_ThingText (⟨r0.1, r1.1, ((w64 (((BitVec.toNat ((BitVec.ofInt (IntKind.bits IntKind.i64) r2.1) &&& (BitVec.ofInt (IntKind.bits IntKind.i64) (1 : Int)))) : Nat) : Int)) != 0), ((w64 (((BitVec.toNat ((BitVec.ofInt (IntKind.bits IntKind.i64) r2.1) &&& (BitVec.ofInt (IntKind.bits IntKind.i64) (2 : Int)))) : Nat) : Int)) != 0), ((w64 (((BitVec.toNat ((BitVec.ofInt (IntKind.bits IntKind.i64) r2.1) &&& (BitVec.ofInt (IntKind.bits IntKind.i64) (4 : Int)))) : Nat) : Int)) != 0), ((w64 (((BitVec.toNat ((BitVec.ofInt (IntKind.bits IntKind.i64) r2.1) &&& (BitVec.ofInt (IntKind.bits IntKind.i64) (8 : Int)))) : Nat) : Int)) != 0), r3.1, r4.1⟩ : SThing)).bind fun r5 =>
  bif r4.2.fBad then
    some ((⟨(0 : Int), (0 : Int), false, false, false, false, (⟨#[]⟩ : ByteArray), (0 : Int)⟩ : SThing), false)
  else
    bif (!r5.2) then
      some ((⟨(0 : Int), (0 : Int), false, false, false, false, (⟨#[]⟩ : ByteArray), (0 : Int)⟩ : SThing), false)
    else
      bif (!((ByteArray.toList r5.1) == (ByteArray.toList text_0))) then
        some ((⟨(0 : Int), (0 : Int), false, false, false, false, (⟨#[]⟩ : ByteArray), (0 : Int)⟩ : SThing), false)
      else
        some ((⟨r0.1, r1.1, ((w64 (((BitVec.toNat ((BitVec.ofInt (IntKind.bits IntKind.i64) r2.1) &&& (BitVec.ofInt (IntKind.bits IntKind.i64) (1 : Int)))) : Nat) : Int)) != 0), ((w64 (((BitVec.toNat ((BitVec.ofInt (IntKind.bits IntKind.i64) r2.1) &&& (BitVec.ofInt (IntKind.bits IntKind.i64) (2 : Int)))) : Nat) : Int)) != 0), ((w64 (((BitVec.toNat ((BitVec.ofInt (IntKind.bits IntKind.i64) r2.1) &&& (BitVec.ofInt (IntKind.bits IntKind.i64) (4 : Int)))) : Nat) : Int)) != 0), ((w64 (((BitVec.toNat ((BitVec.ofInt (IntKind.bits IntKind.i64) r2.1) &&& (BitVec.ofInt (IntKind.bits IntKind.i64) (8 : Int)))) : Nat) : Int)) != 0), r3.1, r4.1⟩ : SThing), true)
noncomputable def impl_ReadThing (text_0 : ByteArray) : Option (SThing × Bool) := E_impl_ReadThing impl_fields_num impl_fields_short impl_ThingText text_0
theorem e_impl_ReadThing (impl_fields_num : SFields → Option (Int × SFields)) (impl_fields_short : SFields → Option (ByteArray × SFields)) (impl_ThingText : SThing → Option (ByteArray × Bool)) : EntryIs0 ctx PP 166 [] [(196, H_impl_fields_num impl_fields_num), (197, H_impl_fields_short impl_fields_short), (198, H_impl_ThingText impl_ThingText)] cv11 cv38 (fun a => E_impl_ReadThing impl_fields_num impl_fields_short impl_ThingText a) := fun a => by kernel_rfl
theorem ok_impl_ReadThing : Tells ctx PP 166 cv11 cv38 (fun a => impl_ReadThing a) := fn_ok0 (hl_cons h_impl_fields_num (hl_cons h_impl_fields_short (hl_cons h_impl_ThingText hl_nil))) Tryz.func166 (e_impl_ReadThing impl_fields_num impl_fields_short impl_ThingText)
noncomputable def H_impl_ReadThing {γ : Type} (F : ByteArray → Option (SThing × Bool)) : Hd ctx γ := hdl cv11.dec (fun a => F a) cv38.enc
theorem h_impl_ReadThing {γ : Type} : HdOk (γ := γ) PP 166 (H_impl_ReadThing impl_ReadThing) := hd_ok ok_impl_ReadThing
end Go.Proofs.YteabefphhanlfaaGreatDoor.G
