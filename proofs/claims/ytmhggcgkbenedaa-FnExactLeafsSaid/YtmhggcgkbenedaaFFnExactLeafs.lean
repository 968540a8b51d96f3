/- Functions of the program, told by plain functions: part 1 of 1. -/
import Derived.Test.YtmhggcgkbenedaaCtx
namespace Go.Proofs.Ytmhggcgkbenedaa.G
open Go Go.Ev
noncomputable def E_laws_szGivenS  (a_0 : (List SGiven)) (left_1 : Int) : Option Int :=
  bif (decide ((w64 (left_1 - (a_0.length : Int))) < 0)) then
    some (-(1 : Int))
  else
    some (w64 (left_1 - (a_0.length : Int)))
noncomputable def laws_szGivenS (a_0 : (List SGiven)) (left_1 : Int) : Option Int := E_laws_szGivenS  a_0 left_1
theorem e_laws_szGivenS  : EntryIs0 ctx PP 15 [] [] cv8 cv1 (fun a => E_laws_szGivenS  a.1 a.2) := fun a => by kernel_rfl
theorem ok_laws_szGivenS : Tells ctx PP 15 cv8 cv1 (fun a => laws_szGivenS a.1 a.2) := fn_ok0 hl_nil Try.func15 (e_laws_szGivenS )
noncomputable def H_laws_szGivenS {γ : Type} (F : (List SGiven) → Int → Option Int) : Hd ctx γ := hdl cv8.dec (fun a => F a.1 a.2) cv1.enc
theorem h_laws_szGivenS {γ : Type} : HdOk (γ := γ) PP 15 (H_laws_szGivenS laws_szGivenS) := hd_ok ok_laws_szGivenS
noncomputable def E_laws_toGiven  (a_0 : SGiven) : Option SGiven :=
  some a_0
noncomputable def laws_toGiven (a_0 : SGiven) : Option SGiven := E_laws_toGiven  a_0
theorem e_laws_toGiven  : EntryIs0 ctx PP 56 [] [] cv9 cv9 (fun a => E_laws_toGiven  a) := fun a => by kernel_rfl
theorem ok_laws_toGiven : Tells ctx PP 56 cv9 cv9 (fun a => laws_toGiven a) := fn_ok0 hl_nil Try.func56 (e_laws_toGiven )
noncomputable def H_laws_toGiven {γ : Type} (F : SGiven → Option SGiven) : Hd ctx γ := hdl cv9.dec (fun a => F a) cv9.enc
theorem h_laws_toGiven {γ : Type} : HdOk (γ := γ) PP 56 (H_laws_toGiven laws_toGiven) := hd_ok ok_laws_toGiven
noncomputable def todo_laws_toGivenS_0 : List Go.Item := [.code (cAt (bodyOf Try.f17) [1, 1, 0, 1, 0, 0, 0, 0]), .code (cAt (bodyOf Try.f17) [1, 1, 0, 1, 0, 0, 0, 1]), .code (cAt (bodyOf Try.f17) [1, 1, 0, 1, 0, 0, 1]), .inLoop (cAt (bodyOf Try.f17) [1, 1, 0, 1, 0, 0]), .inBlock 0, .code (cAt (bodyOf Try.f17) [1, 1, 1])]
inductive St_laws_toGivenS where
  | c0 (a_0 : (List SGiven)) (i_4 : Int) (out_3 : (List SGiven))
noncomputable def at_laws_toGivenS : St_laws_toGivenS → LI
  | .c0 a_0 i_4 out_3 => (todo_laws_toGivenS_0, [(0, [.one (.rsl 89 a_0)]), (3, [.one (.own 240)]), (4, [.one (.int .i64 i_4)])], [(240, .sl 87 out_3)])
noncomputable def E_laws_toGivenS (laws_toGiven : SGiven → Option SGiven) (k : St_laws_toGivenS → Option (List SGiven)) (a_0 : (List SGiven)) : Option (List SGiven) :=
  bif ((((decide (0 ≤ (a_0.length : Int))) && (decide ((a_0.length : Int) ≤ (a_0.length : Int)))) && (decide ((a_0.length : Int) ≤ 9223372036854775807))) && (decide (((a_0.length : Int).toNat * 24) ≤ 140737488355328))) then
  k (.c0 a_0 (0 : Int) (List.replicate (a_0.length : Int).toNat (⟨(0 : Int), (0 : Int), (0 : Int)⟩ : SGiven)))
  else none
noncomputable def B_laws_toGivenS (laws_toGiven : SGiven → Option SGiven) (k : St_laws_toGivenS → Option (List SGiven)) : St_laws_toGivenS → Option (List SGiven)
  | .c0 a_0 i_4 out_3 =>
    bif (decide (i_4 < (a_0.length : Int))) then
      bif ((decide (0 ≤ i_4)) && (decide (i_4 < (a_0.length : Int)))) then
      (laws_toGiven (a_0.getD i_4.toNat (⟨(0 : Int), (0 : Int), (0 : Int)⟩ : SGiven))).bind fun r0 =>
      bif ((decide (0 ≤ i_4)) && (decide (i_4 < (out_3.length : Int)))) then
      k (.c0 a_0 (w64 (i_4 + 1)) (out_3.set i_4.toNat r0))
      else none
      else none
    else
      some out_3
noncomputable def L_laws_toGivenS : Nat → St_laws_toGivenS → Option (List SGiven)
  | 0, _ => none
  | m + 1, s => B_laws_toGivenS laws_toGiven (L_laws_toGivenS m) s
noncomputable def laws_toGivenS (a_0 : (List SGiven)) : Option (List SGiven) := E_laws_toGivenS laws_toGiven (L_laws_toGivenS gas) a_0
theorem e_laws_toGivenS (laws_toGiven : SGiven → Option SGiven) : EntryIs ctx PP 17 [] [(56, H_laws_toGiven laws_toGiven)] cv10 cv11 at_laws_toGivenS (fun k a => E_laws_toGivenS laws_toGiven k a) := fun stop a => by kernel_rfl
theorem b_laws_toGivenS (laws_toGiven : SGiven → Option SGiven) : CutIs ctx PP 17 Try.f17 [] [(56, H_laws_toGiven laws_toGiven)] cv11 at_laws_toGivenS (B_laws_toGivenS laws_toGiven) := fun stop s => by cases s <;> kernel_rfl
theorem i_laws_toGivenS : ∀ s s', at_laws_toGivenS s = at_laws_toGivenS s' → s = s' := by
  intro s s' h
  cases s with
  | c0 v0 v1 v2 => cases s' with
    | c0 w0 w1 w2 => cases h; rfl
theorem ok_laws_toGivenS : Tells ctx PP 17 cv10 cv11 (fun a => laws_toGivenS a) := fn_ok (hl_cons h_laws_toGiven hl_nil) Try.func17 i_laws_toGivenS (fun _ => rfl) (fun _ _ => rfl) (b_laws_toGivenS laws_toGiven) (e_laws_toGivenS laws_toGiven) gas
noncomputable def H_laws_toGivenS {γ : Type} (F : (List SGiven) → Option (List SGiven)) : Hd ctx γ := hdl cv10.dec (fun a => F a) cv11.enc
theorem h_laws_toGivenS {γ : Type} : HdOk (γ := γ) PP 17 (H_laws_toGivenS laws_toGivenS) := hd_ok ok_laws_toGivenS
noncomputable def todo_spec_Leafs_0 : List Go.Item := [.code (cAt (bodyOf Try.f16) [1, 1, 0, 1, 0, 0, 0, 0]), .code (cAt (bodyOf Try.f16) [1, 1, 0, 1, 0, 0, 0, 1]), .code (cAt (bodyOf Try.f16) [1, 1, 0, 1, 0, 0, 1]), .inLoop (cAt (bodyOf Try.f16) [1, 1, 0, 1, 0, 0]), .inBlock 0, .code (cAt (bodyOf Try.f16) [1, 1, 1])]
inductive St_spec_Leafs where
  | c0 (list_0 : (List SGiven)) (thing_1 : Int) (i_6 : Int) (out_5 : (List Int))
noncomputable def at_spec_Leafs : St_spec_Leafs → LI
  | .c0 list_0 thing_1 i_6 out_5 => (todo_spec_Leafs_0, [(0, [.one (.rsl 87 list_0)]), (1, [.one (.int .i64 thing_1)]), (5, [.one (.own 368)]), (6, [.one (.int .i64 i_6)])], [(368, .sl 3 out_5)])
noncomputable def E_spec_Leafs  (k : St_spec_Leafs → Option (List Int)) (list_0 : (List SGiven)) (thing_1 : Int) : Option (List Int) :=
  k (.c0 list_0 thing_1 (0 : Int) [])
noncomputable def B_spec_Leafs  (k : St_spec_Leafs → Option (List Int)) : St_spec_Leafs → Option (List Int)
  | .c0 list_0 thing_1 i_6 out_5 =>
    bif (decide (i_6 < (list_0.length : Int))) then
      bif ((decide (0 ≤ i_6)) && (decide (i_6 < (list_0.length : Int)))) then
      bif ((list_0.getD i_6.toNat (⟨(0 : Int), (0 : Int), (0 : Int)⟩ : SGiven)).fThing == thing_1) then
        bif ((decide (0 ≤ i_6)) && (decide (i_6 < (list_0.length : Int)))) then
        bif (decide (((out_5.length + 1) * 8) ≤ 140737488355328)) then
        k (.c0 list_0 thing_1 (w64 (i_6 + 1)) (out_5 ++ [(list_0.getD i_6.toNat (⟨(0 : Int), (0 : Int), (0 : Int)⟩ : SGiven)).fLeaf]))
        else none
        else none
      else
        k (.c0 list_0 thing_1 (w64 (i_6 + 1)) out_5)
      else none
    else
      some out_5
noncomputable def L_spec_Leafs : Nat → St_spec_Leafs → Option (List Int)
  | 0, _ => none
  | m + 1, s => B_spec_Leafs  (L_spec_Leafs m) s
noncomputable def spec_Leafs (list_0 : (List SGiven)) (thing_1 : Int) : Option (List Int) := E_spec_Leafs  (L_spec_Leafs gas) list_0 thing_1
theorem e_spec_Leafs  : EntryIs ctx PP 16 [] [] cv12 cv13 at_spec_Leafs (fun k a => E_spec_Leafs  k a.1 a.2) := fun stop a => by kernel_rfl
theorem b_spec_Leafs  : CutIs ctx PP 16 Try.f16 [] [] cv13 at_spec_Leafs (B_spec_Leafs ) := fun stop s => by cases s <;> kernel_rfl
theorem i_spec_Leafs : ∀ s s', at_spec_Leafs s = at_spec_Leafs s' → s = s' := by
  intro s s' h
  cases s with
  | c0 v0 v1 v2 v3 => cases s' with
    | c0 w0 w1 w2 w3 => cases h; rfl
theorem ok_spec_Leafs : Tells ctx PP 16 cv12 cv13 (fun a => spec_Leafs a.1 a.2) := fn_ok hl_nil Try.func16 i_spec_Leafs (fun _ => rfl) (fun _ _ => rfl) (b_spec_Leafs ) (e_spec_Leafs ) gas
noncomputable def H_spec_Leafs {γ : Type} (F : (List SGiven) → Int → Option (List Int)) : Hd ctx γ := hdl cv12.dec (fun a => F a.1 a.2) cv13.enc
theorem h_spec_Leafs {γ : Type} : HdOk (γ := γ) PP 16 (H_spec_Leafs spec_Leafs) := hd_ok ok_spec_Leafs
noncomputable def todo_impl_Leafs_0 : List Go.Item := [.code (cAt (bodyOf Try.f18) [1, 1, 0, 1, 0, 0, 0]), .code (cAt (bodyOf Try.f18) [1, 1, 0, 1, 0, 0, 1]), .inLoop (cAt (bodyOf Try.f18) [1, 1, 0, 1, 0, 0]), .inBlock 0, .code (cAt (bodyOf Try.f18) [1, 1, 1])]
inductive St_impl_Leafs where
  | c0 (thing_1 : Int) (v_8 : (List SGiven)) (v_9 : Int) (v_10 : Int) (out_5 : (List Int))
noncomputable def at_impl_Leafs : St_impl_Leafs → LI
  | .c0 thing_1 v_8 v_9 v_10 out_5 => (todo_impl_Leafs_0, [(1, [.one (.int .i64 thing_1)]), (5, [.one (.own 368)]), (8, [.one (.rsl 87 v_8)]), (9, [.one (.int .i64 v_9)]), (10, [.one (.int .i64 v_10)])], [(368, .sl 3 out_5)])
noncomputable def E_impl_Leafs  (k : St_impl_Leafs → Option (List Int)) (list_0 : (List SGiven)) (thing_1 : Int) : Option (List Int) :=
  k (.c0 thing_1 list_0 (list_0.length : Int) (0 : Int) [])
noncomputable def B_impl_Leafs  (k : St_impl_Leafs → Option (List Int)) : St_impl_Leafs → Option (List Int)
  | .c0 thing_1 v_8 v_9 v_10 out_5 =>
    bif (decide (v_10 < v_9)) then
      bif ((decide (0 ≤ v_10)) && (decide (v_10 < (v_8.length : Int)))) then
      bif ((v_8.getD v_10.toNat (⟨(0 : Int), (0 : Int), (0 : Int)⟩ : SGiven)).fThing == thing_1) then
        bif (decide (((out_5.length + 1) * 8) ≤ 140737488355328)) then
        k (.c0 thing_1 v_8 v_9 (w64 (v_10 + 1)) (out_5 ++ [(v_8.getD v_10.toNat (⟨(0 : Int), (0 : Int), (0 : Int)⟩ : SGiven)).fLeaf]))
        else none
      else
        k (.c0 thing_1 v_8 v_9 (w64 (v_10 + 1)) out_5)
      else none
    else
      some out_5
noncomputable def L_impl_Leafs : Nat → St_impl_Leafs → Option (List Int)
  | 0, _ => none
  | m + 1, s => B_impl_Leafs  (L_impl_Leafs m) s
noncomputable def impl_Leafs (list_0 : (List SGiven)) (thing_1 : Int) : Option (List Int) := E_impl_Leafs  (L_impl_Leafs gas) list_0 thing_1
theorem e_impl_Leafs  : EntryIs ctx PP 18 [] [] cv12 cv13 at_impl_Leafs (fun k a => E_impl_Leafs  k a.1 a.2) := fun stop a => by kernel_rfl
theorem b_impl_Leafs  : CutIs ctx PP 18 Try.f18 [] [] cv13 at_impl_Leafs (B_impl_Leafs ) := fun stop s => by cases s <;> kernel_rfl
theorem i_impl_Leafs : ∀ s s', at_impl_Leafs s = at_impl_Leafs s' → s = s' := by
  intro s s' h
  cases s with
  | c0 v0 v1 v2 v3 v4 => cases s' with
    | c0 w0 w1 w2 w3 w4 => cases h; rfl
theorem ok_impl_Leafs : Tells ctx PP 18 cv12 cv13 (fun a => impl_Leafs a.1 a.2) := fn_ok hl_nil Try.func18 i_impl_Leafs (fun _ => rfl) (fun _ _ => rfl) (b_impl_Leafs ) (e_impl_Leafs ) gas
noncomputable def H_impl_Leafs {γ : Type} (F : (List SGiven) → Int → Option (List Int)) : Hd ctx γ := hdl cv12.dec (fun a => F a.1 a.2) cv13.enc
theorem h_impl_Leafs {γ : Type} : HdOk (γ := γ) PP 18 (H_impl_Leafs impl_Leafs) := hd_ok ok_impl_Leafs
noncomputable def todo_laws_eqIntS_0 : List Go.Item := [.code (cAt (bodyOf Try.f19) [1, 1, 0, 1, 0, 0, 0, 0]), .code (cAt (bodyOf Try.f19) [1, 1, 0, 1, 0, 0, 0, 1]), .code (cAt (bodyOf Try.f19) [1, 1, 0, 1, 0, 0, 1]), .inLoop (cAt (bodyOf Try.f19) [1, 1, 0, 1, 0, 0]), .inBlock 0, .code (cAt (bodyOf Try.f19) [1, 1, 1])]
inductive St_laws_eqIntS where
  | c0 (a_0 : (List Int)) (b_1 : (List Int)) (i_5 : Int)
noncomputable def at_laws_eqIntS : St_laws_eqIntS → LI
  | .c0 a_0 b_1 i_5 => (todo_laws_eqIntS_0, [(0, [.one (.rsl 3 a_0)]), (1, [.one (.rsl 3 b_1)]), (5, [.one (.int .i64 i_5)])], [])
noncomputable def E_laws_eqIntS  (k : St_laws_eqIntS → Option Bool) (a_0 : (List Int)) (b_1 : (List Int)) : Option Bool :=
  bif ((a_0.length : Int) != (b_1.length : Int)) then
    some false
  else
    k (.c0 a_0 b_1 (0 : Int))
noncomputable def B_laws_eqIntS  (k : St_laws_eqIntS → Option Bool) : St_laws_eqIntS → Option Bool
  | .c0 a_0 b_1 i_5 =>
    bif (decide (i_5 < (a_0.length : Int))) then
      bif ((decide (0 ≤ i_5)) && (decide (i_5 < (a_0.length : Int)))) then
      bif ((decide (0 ≤ i_5)) && (decide (i_5 < (b_1.length : Int)))) then
      bif ((a_0.getD i_5.toNat 0) != (b_1.getD i_5.toNat 0)) then
        some false
      else
        k (.c0 a_0 b_1 (w64 (i_5 + 1)))
      else none
      else none
    else
      some true
noncomputable def L_laws_eqIntS : Nat → St_laws_eqIntS → Option Bool
  | 0, _ => none
  | m + 1, s => B_laws_eqIntS  (L_laws_eqIntS m) s
noncomputable def laws_eqIntS (a_0 : (List Int)) (b_1 : (List Int)) : Option Bool := E_laws_eqIntS  (L_laws_eqIntS gas) a_0 b_1
theorem e_laws_eqIntS  : EntryIs ctx PP 19 [] [] cv14 cv4 at_laws_eqIntS (fun k a => E_laws_eqIntS  k a.1 a.2) := fun stop a => by kernel_rfl
theorem b_laws_eqIntS  : CutIs ctx PP 19 Try.f19 [] [] cv4 at_laws_eqIntS (B_laws_eqIntS ) := fun stop s => by cases s <;> kernel_rfl
theorem i_laws_eqIntS : ∀ s s', at_laws_eqIntS s = at_laws_eqIntS s' → s = s' := by
  intro s s' h
  cases s with
  | c0 v0 v1 v2 => cases s' with
    | c0 w0 w1 w2 => cases h; rfl
theorem ok_laws_eqIntS : Tells ctx PP 19 cv14 cv4 (fun a => laws_eqIntS a.1 a.2) := fn_ok hl_nil Try.func19 i_laws_eqIntS (fun _ => rfl) (fun _ _ => rfl) (b_laws_eqIntS ) (e_laws_eqIntS ) gas
noncomputable def H_laws_eqIntS {γ : Type} (F : (List Int) → (List Int) → Option Bool) : Hd ctx γ := hdl cv14.dec (fun a => F a.1 a.2) cv4.enc
theorem h_laws_eqIntS {γ : Type} : HdOk (γ := γ) PP 19 (H_laws_eqIntS laws_eqIntS) := hd_ok ok_laws_eqIntS
noncomputable def E_laws_eqGiven  (a_0 : SGiven) (b_1 : SGiven) : Option Bool :=
  bif (a_0.fThing != b_1.fThing) then
    some false
  else
    bif (a_0.fLeaf != b_1.fLeaf) then
      some false
    else
      bif (a_0.fWhen != b_1.fWhen) then
        some false
      else
        some true
noncomputable def laws_eqGiven (a_0 : SGiven) (b_1 : SGiven) : Option Bool := E_laws_eqGiven  a_0 b_1
theorem e_laws_eqGiven  : EntryIs0 ctx PP 57 [] [] cv15 cv4 (fun a => E_laws_eqGiven  a.1 a.2) := fun a => by kernel_rfl
theorem ok_laws_eqGiven : Tells ctx PP 57 cv15 cv4 (fun a => laws_eqGiven a.1 a.2) := fn_ok0 hl_nil Try.func57 (e_laws_eqGiven )
noncomputable def H_laws_eqGiven {γ : Type} (F : SGiven → SGiven → Option Bool) : Hd ctx γ := hdl cv15.dec (fun a => F a.1 a.2) cv4.enc
theorem h_laws_eqGiven {γ : Type} : HdOk (γ := γ) PP 57 (H_laws_eqGiven laws_eqGiven) := hd_ok ok_laws_eqGiven
noncomputable def todo_laws_eqGivenS_0 : List Go.Item := [.code (cAt (bodyOf Try.f20) [1, 1, 0, 1, 0, 0, 0, 0]), .code (cAt (bodyOf Try.f20) [1, 1, 0, 1, 0, 0, 0, 1]), .code (cAt (bodyOf Try.f20) [1, 1, 0, 1, 0, 0, 1]), .inLoop (cAt (bodyOf Try.f20) [1, 1, 0, 1, 0, 0]), .inBlock 0, .code (cAt (bodyOf Try.f20) [1, 1, 1])]
inductive St_laws_eqGivenS where
  | c0 (a_0 : (List SGiven)) (b_1 : (List SGiven)) (i_5 : Int)
noncomputable def at_laws_eqGivenS : St_laws_eqGivenS → LI
  | .c0 a_0 b_1 i_5 => (todo_laws_eqGivenS_0, [(0, [.one (.rsl 87 a_0)]), (1, [.one (.rsl 87 b_1)]), (5, [.one (.int .i64 i_5)])], [])
noncomputable def E_laws_eqGivenS (laws_eqGiven : SGiven → SGiven → Option Bool) (k : St_laws_eqGivenS → Option Bool) (a_0 : (List SGiven)) (b_1 : (List SGiven)) : Option Bool :=
  bif ((a_0.length : Int) != (b_1.length : Int)) then
    some false
  else
    k (.c0 a_0 b_1 (0 : Int))
noncomputable def B_laws_eqGivenS (laws_eqGiven : SGiven → SGiven → Option Bool) (k : St_laws_eqGivenS → Option Bool) : St_laws_eqGivenS → Option Bool
  | .c0 a_0 b_1 i_5 =>
    bif (decide (i_5 < (a_0.length : Int))) then
      bif ((decide (0 ≤ i_5)) && (decide (i_5 < (a_0.length : Int)))) then
      bif ((decide (0 ≤ i_5)) && (decide (i_5 < (b_1.length : Int)))) then
      (laws_eqGiven (a_0.getD i_5.toNat (⟨(0 : Int), (0 : Int), (0 : Int)⟩ : SGiven)) (b_1.getD i_5.toNat (⟨(0 : Int), (0 : Int), (0 : Int)⟩ : SGiven))).bind fun r0 =>
      bif (!r0) then
        some false
      else
        k (.c0 a_0 b_1 (w64 (i_5 + 1)))
      else none
      else none
    else
      some true
noncomputable def L_laws_eqGivenS : Nat → St_laws_eqGivenS → Option Bool
  | 0, _ => none
  | m + 1, s => B_laws_eqGivenS laws_eqGiven (L_laws_eqGivenS m) s
noncomputable def laws_eqGivenS (a_0 : (List SGiven)) (b_1 : (List SGiven)) : Option Bool := E_laws_eqGivenS laws_eqGiven (L_laws_eqGivenS gas) a_0 b_1
theorem e_laws_eqGivenS (laws_eqGiven : SGiven → SGiven → Option Bool) : EntryIs ctx PP 20 [] [(57, H_laws_eqGiven laws_eqGiven)] cv16 cv4 at_laws_eqGivenS (fun k a => E_laws_eqGivenS laws_eqGiven k a.1 a.2) := fun stop a => by kernel_rfl
theorem b_laws_eqGivenS (laws_eqGiven : SGiven → SGiven → Option Bool) : CutIs ctx PP 20 Try.f20 [] [(57, H_laws_eqGiven laws_eqGiven)] cv4 at_laws_eqGivenS (B_laws_eqGivenS laws_eqGiven) := fun stop s => by cases s <;> kernel_rfl
theorem i_laws_eqGivenS : ∀ s s', at_laws_eqGivenS s = at_laws_eqGivenS s' → s = s' := by
  intro s s' h
  cases s with
  | c0 v0 v1 v2 => cases s' with
    | c0 w0 w1 w2 => cases h; rfl
theorem ok_laws_eqGivenS : Tells ctx PP 20 cv16 cv4 (fun a => laws_eqGivenS a.1 a.2) := fn_ok (hl_cons h_laws_eqGiven hl_nil) Try.func20 i_laws_eqGivenS (fun _ => rfl) (fun _ _ => rfl) (b_laws_eqGivenS laws_eqGiven) (e_laws_eqGivenS laws_eqGiven) gas
noncomputable def H_laws_eqGivenS {γ : Type} (F : (List SGiven) → (List SGiven) → Option Bool) : Hd ctx γ := hdl cv16.dec (fun a => F a.1 a.2) cv4.enc
theorem h_laws_eqGivenS {γ : Type} : HdOk (γ := γ) PP 20 (H_laws_eqGivenS laws_eqGivenS) := hd_ok ok_laws_eqGivenS
noncomputable def todo_laws_markGivenS_0 : List Go.Item := [.code (cAt (bodyOf Try.f21) [1, 0, 1, 0, 0, 0, 0]), .code (cAt (bodyOf Try.f21) [1, 0, 1, 0, 0, 0, 1]), .code (cAt (bodyOf Try.f21) [1, 0, 1, 0, 0, 1]), .inLoop (cAt (bodyOf Try.f21) [1, 0, 1, 0, 0]), .inBlock 0, .code (cAt (bodyOf Try.f21) [1, 1])]
inductive St_laws_markGivenS where
  | c0 (k_1 : Int) (i_5 : Int) (a_0r1 : (List SGiven))
noncomputable def at_laws_markGivenS : St_laws_markGivenS → LI
  | .c0 k_1 i_5 a_0r1 => (todo_laws_markGivenS_0, [(0, [.one (.own 1)]), (1, [.one (.int .i64 k_1)]), (5, [.one (.int .i64 i_5)])], [(1, .io 87 a_0r1)])
noncomputable def E_laws_markGivenS  (k : St_laws_markGivenS → Option (Int × (List SGiven))) (a_0 : (List SGiven)) (k_1 : Int) : Option (Int × (List SGiven)) :=
  k (.c0 k_1 (0 : Int) a_0)
noncomputable def B_laws_markGivenS  (k : St_laws_markGivenS → Option (Int × (List SGiven))) : St_laws_markGivenS → Option (Int × (List SGiven))
  | .c0 k_1 i_5 a_0r1 =>
    bif (decide (i_5 < (a_0r1.length : Int))) then
      bif ((decide (0 ≤ i_5)) && (decide (i_5 < (a_0r1.length : Int)))) then
      bif ((decide (0 ≤ i_5)) && (decide (i_5 < ((a_0r1.set i_5.toNat (⟨k_1, (a_0r1.getD i_5.toNat (⟨(0 : Int), (0 : Int), (0 : Int)⟩ : SGiven)).fLeaf, (a_0r1.getD i_5.toNat (⟨(0 : Int), (0 : Int), (0 : Int)⟩ : SGiven)).fWhen⟩ : SGiven)).length : Int)))) then
      bif ((decide (0 ≤ i_5)) && (decide (i_5 < (((a_0r1.set i_5.toNat (⟨k_1, (a_0r1.getD i_5.toNat (⟨(0 : Int), (0 : Int), (0 : Int)⟩ : SGiven)).fLeaf, (a_0r1.getD i_5.toNat (⟨(0 : Int), (0 : Int), (0 : Int)⟩ : SGiven)).fWhen⟩ : SGiven)).set i_5.toNat (⟨((a_0r1.set i_5.toNat (⟨k_1, (a_0r1.getD i_5.toNat (⟨(0 : Int), (0 : Int), (0 : Int)⟩ : SGiven)).fLeaf, (a_0r1.getD i_5.toNat (⟨(0 : Int), (0 : Int), (0 : Int)⟩ : SGiven)).fWhen⟩ : SGiven)).getD i_5.toNat (⟨(0 : Int), (0 : Int), (0 : Int)⟩ : SGiven)).fThing, (w64 (k_1 + 1)), ((a_0r1.set i_5.toNat (⟨k_1, (a_0r1.getD i_5.toNat (⟨(0 : Int), (0 : Int), (0 : Int)⟩ : SGiven)).fLeaf, (a_0r1.getD i_5.toNat (⟨(0 : Int), (0 : Int), (0 : Int)⟩ : SGiven)).fWhen⟩ : SGiven)).getD i_5.toNat (⟨(0 : Int), (0 : Int), (0 : Int)⟩ : SGiven)).fWhen⟩ : SGiven)).length : Int)))) then
      k (.c0 (w64 ((w64 ((w64 (k_1 + 1)) + 1)) + 1)) (w64 (i_5 + 1)) (((a_0r1.set i_5.toNat (⟨k_1, (a_0r1.getD i_5.toNat (⟨(0 : Int), (0 : Int), (0 : Int)⟩ : SGiven)).fLeaf, (a_0r1.getD i_5.toNat (⟨(0 : Int), (0 : Int), (0 : Int)⟩ : SGiven)).fWhen⟩ : SGiven)).set i_5.toNat (⟨((a_0r1.set i_5.toNat (⟨k_1, (a_0r1.getD i_5.toNat (⟨(0 : Int), (0 : Int), (0 : Int)⟩ : SGiven)).fLeaf, (a_0r1.getD i_5.toNat (⟨(0 : Int), (0 : Int), (0 : Int)⟩ : SGiven)).fWhen⟩ : SGiven)).getD i_5.toNat (⟨(0 : Int), (0 : Int), (0 : Int)⟩ : SGiven)).fThing, (w64 (k_1 + 1)), ((a_0r1.set i_5.toNat (⟨k_1, (a_0r1.getD i_5.toNat (⟨(0 : Int), (0 : Int), (0 : Int)⟩ : SGiven)).fLeaf, (a_0r1.getD i_5.toNat (⟨(0 : Int), (0 : Int), (0 : Int)⟩ : SGiven)).fWhen⟩ : SGiven)).getD i_5.toNat (⟨(0 : Int), (0 : Int), (0 : Int)⟩ : SGiven)).fWhen⟩ : SGiven)).set i_5.toNat (⟨(((a_0r1.set i_5.toNat (⟨k_1, (a_0r1.getD i_5.toNat (⟨(0 : Int), (0 : Int), (0 : Int)⟩ : SGiven)).fLeaf, (a_0r1.getD i_5.toNat (⟨(0 : Int), (0 : Int), (0 : Int)⟩ : SGiven)).fWhen⟩ : SGiven)).set i_5.toNat (⟨((a_0r1.set i_5.toNat (⟨k_1, (a_0r1.getD i_5.toNat (⟨(0 : Int), (0 : Int), (0 : Int)⟩ : SGiven)).fLeaf, (a_0r1.getD i_5.toNat (⟨(0 : Int), (0 : Int), (0 : Int)⟩ : SGiven)).fWhen⟩ : SGiven)).getD i_5.toNat (⟨(0 : Int), (0 : Int), (0 : Int)⟩ : SGiven)).fThing, (w64 (k_1 + 1)), ((a_0r1.set i_5.toNat (⟨k_1, (a_0r1.getD i_5.toNat (⟨(0 : Int), (0 : Int), (0 : Int)⟩ : SGiven)).fLeaf, (a_0r1.getD i_5.toNat (⟨(0 : Int), (0 : Int), (0 : Int)⟩ : SGiven)).fWhen⟩ : SGiven)).getD i_5.toNat (⟨(0 : Int), (0 : Int), (0 : Int)⟩ : SGiven)).fWhen⟩ : SGiven)).getD i_5.toNat (⟨(0 : Int), (0 : Int), (0 : Int)⟩ : SGiven)).fThing, (((a_0r1.set i_5.toNat (⟨k_1, (a_0r1.getD i_5.toNat (⟨(0 : Int), (0 : Int), (0 : Int)⟩ : SGiven)).fLeaf, (a_0r1.getD i_5.toNat (⟨(0 : Int), (0 : Int), (0 : Int)⟩ : SGiven)).fWhen⟩ : SGiven)).set i_5.toNat (⟨((a_0r1.set i_5.toNat (⟨k_1, (a_0r1.getD i_5.toNat (⟨(0 : Int), (0 : Int), (0 : Int)⟩ : SGiven)).fLeaf, (a_0r1.getD i_5.toNat (⟨(0 : Int), (0 : Int), (0 : Int)⟩ : SGiven)).fWhen⟩ : SGiven)).getD i_5.toNat (⟨(0 : Int), (0 : Int), (0 : Int)⟩ : SGiven)).fThing, (w64 (k_1 + 1)), ((a_0r1.set i_5.toNat (⟨k_1, (a_0r1.getD i_5.toNat (⟨(0 : Int), (0 : Int), (0 : Int)⟩ : SGiven)).fLeaf, (a_0r1.getD i_5.toNat (⟨(0 : Int), (0 : Int), (0 : Int)⟩ : SGiven)).fWhen⟩ : SGiven)).getD i_5.toNat (⟨(0 : Int), (0 : Int), (0 : Int)⟩ : SGiven)).fWhen⟩ : SGiven)).getD i_5.toNat (⟨(0 : Int), (0 : Int), (0 : Int)⟩ : SGiven)).fLeaf, (w64 ((w64 (k_1 + 1)) + 1))⟩ : SGiven)))
      else none
      else none
      else none
    else
      some (k_1, a_0r1)
noncomputable def L_laws_markGivenS : Nat → St_laws_markGivenS → Option (Int × (List SGiven))
  | 0, _ => none
  | m + 1, s => B_laws_markGivenS  (L_laws_markGivenS m) s
noncomputable def laws_markGivenS (a_0 : (List SGiven)) (k_1 : Int) : Option (Int × (List SGiven)) := E_laws_markGivenS  (L_laws_markGivenS gas) a_0 k_1
theorem e_laws_markGivenS  : EntryIs ctx PP 21 [1] [] cv17 cv18 at_laws_markGivenS (fun k a => E_laws_markGivenS  k a.1 a.2) := fun stop a => by kernel_rfl
theorem b_laws_markGivenS  : CutIs ctx PP 21 Try.f21 [1] [] cv18 at_laws_markGivenS (B_laws_markGivenS ) := fun stop s => by cases s <;> kernel_rfl
theorem i_laws_markGivenS : ∀ s s', at_laws_markGivenS s = at_laws_markGivenS s' → s = s' := by
  intro s s' h
  cases s with
  | c0 v0 v1 v2 => cases s' with
    | c0 w0 w1 w2 => cases h; rfl
theorem ok_laws_markGivenS : Tells ctx PP 21 cv17 cv18 (fun a => laws_markGivenS a.1 a.2) := fn_ok hl_nil Try.func21 i_laws_markGivenS (fun _ => rfl) (fun _ _ => rfl) (b_laws_markGivenS ) (e_laws_markGivenS ) gas
noncomputable def H_laws_markGivenS {γ : Type} (F : (List SGiven) → Int → Option (Int × (List SGiven))) : Hd ctx γ := hdl cv17.dec (fun a => F a.1 a.2) cv18.enc
theorem h_laws_markGivenS {γ : Type} : HdOk (γ := γ) PP 21 (H_laws_markGivenS laws_markGivenS) := hd_ok ok_laws_markGivenS
noncomputable def todo_laws_markIntS_0 : List Go.Item := [.code (cAt (bodyOf Try.f22) [1, 0, 1, 0, 0, 0, 0]), .code (cAt (bodyOf Try.f22) [1, 0, 1, 0, 0, 0, 1]), .code (cAt (bodyOf Try.f22) [1, 0, 1, 0, 0, 1]), .inLoop (cAt (bodyOf Try.f22) [1, 0, 1, 0, 0]), .inBlock 0, .code (cAt (bodyOf Try.f22) [1, 1])]
inductive St_laws_markIntS where
  | c0 (k_1 : Int) (i_5 : Int) (a_0r1 : (List Int))
noncomputable def at_laws_markIntS : St_laws_markIntS → LI
  | .c0 k_1 i_5 a_0r1 => (todo_laws_markIntS_0, [(0, [.one (.own 1)]), (1, [.one (.int .i64 k_1)]), (5, [.one (.int .i64 i_5)])], [(1, .io 3 a_0r1)])
noncomputable def E_laws_markIntS  (k : St_laws_markIntS → Option (Int × (List Int))) (a_0 : (List Int)) (k_1 : Int) : Option (Int × (List Int)) :=
  k (.c0 k_1 (0 : Int) a_0)
noncomputable def B_laws_markIntS  (k : St_laws_markIntS → Option (Int × (List Int))) : St_laws_markIntS → Option (Int × (List Int))
  | .c0 k_1 i_5 a_0r1 =>
    bif (decide (i_5 < (a_0r1.length : Int))) then
      bif ((decide (0 ≤ i_5)) && (decide (i_5 < (a_0r1.length : Int)))) then
      k (.c0 (w64 (k_1 + 1)) (w64 (i_5 + 1)) (a_0r1.set i_5.toNat k_1))
      else none
    else
      some (k_1, a_0r1)
noncomputable def L_laws_markIntS : Nat → St_laws_markIntS → Option (Int × (List Int))
  | 0, _ => none
  | m + 1, s => B_laws_markIntS  (L_laws_markIntS m) s
noncomputable def laws_markIntS (a_0 : (List Int)) (k_1 : Int) : Option (Int × (List Int)) := E_laws_markIntS  (L_laws_markIntS gas) a_0 k_1
theorem e_laws_markIntS  : EntryIs ctx PP 22 [1] [] cv19 cv20 at_laws_markIntS (fun k a => E_laws_markIntS  k a.1 a.2) := fun stop a => by kernel_rfl
theorem b_laws_markIntS  : CutIs ctx PP 22 Try.f22 [1] [] cv20 at_laws_markIntS (B_laws_markIntS ) := fun stop s => by cases s <;> kernel_rfl
theorem i_laws_markIntS : ∀ s s', at_laws_markIntS s = at_laws_markIntS s' → s = s' := by
  intro s s' h
  cases s with
  | c0 v0 v1 v2 => cases s' with
    | c0 w0 w1 w2 => cases h; rfl
theorem ok_laws_markIntS : Tells ctx PP 22 cv19 cv20 (fun a => laws_markIntS a.1 a.2) := fn_ok hl_nil Try.func22 i_laws_markIntS (fun _ => rfl) (fun _ _ => rfl) (b_laws_markIntS ) (e_laws_markIntS ) gas
noncomputable def H_laws_markIntS {γ : Type} (F : (List Int) → Int → Option (Int × (List Int))) : Hd ctx γ := hdl cv19.dec (fun a => F a.1 a.2) cv20.enc
theorem h_laws_markIntS {γ : Type} : HdOk (γ := γ) PP 22 (H_laws_markIntS laws_markIntS) := hd_ok ok_laws_markIntS
noncomputable def todo_laws_heldIntS_0 : List Go.Item := [.code (cAt (bodyOf Try.f23) [1, 0, 1, 0, 0, 0, 0]), .code (cAt (bodyOf Try.f23) [1, 0, 1, 0, 0, 0, 1]), .code (cAt (bodyOf Try.f23) [1, 0, 1, 0, 0, 1]), .inLoop (cAt (bodyOf Try.f23) [1, 0, 1, 0, 0]), .inBlock 0, .code (cAt (bodyOf Try.f23) [1, 1])]
inductive St_laws_heldIntS where
  | c0 (a_0 : (List Int)) (k_1 : Int) (i_5 : Int)
noncomputable def at_laws_heldIntS : St_laws_heldIntS → LI
  | .c0 a_0 k_1 i_5 => (todo_laws_heldIntS_0, [(0, [.one (.rsl 3 a_0)]), (1, [.one (.int .i64 k_1)]), (5, [.one (.int .i64 i_5)])], [])
noncomputable def E_laws_heldIntS  (k : St_laws_heldIntS → Option Int) (a_0 : (List Int)) (k_1 : Int) : Option Int :=
  k (.c0 a_0 k_1 (0 : Int))
noncomputable def B_laws_heldIntS  (k : St_laws_heldIntS → Option Int) : St_laws_heldIntS → Option Int
  | .c0 a_0 k_1 i_5 =>
    bif (decide (i_5 < (a_0.length : Int))) then
      bif ((decide (0 ≤ i_5)) && (decide (i_5 < (a_0.length : Int)))) then
      bif ((a_0.getD i_5.toNat 0) != k_1) then
        some (-(1 : Int))
      else
        k (.c0 a_0 (w64 (k_1 + 1)) (w64 (i_5 + 1)))
      else none
    else
      some k_1
noncomputable def L_laws_heldIntS : Nat → St_laws_heldIntS → Option Int
  | 0, _ => none
  | m + 1, s => B_laws_heldIntS  (L_laws_heldIntS m) s
noncomputable def laws_heldIntS (a_0 : (List Int)) (k_1 : Int) : Option Int := E_laws_heldIntS  (L_laws_heldIntS gas) a_0 k_1
theorem e_laws_heldIntS  : EntryIs ctx PP 23 [] [] cv21 cv1 at_laws_heldIntS (fun k a => E_laws_heldIntS  k a.1 a.2) := fun stop a => by kernel_rfl
theorem b_laws_heldIntS  : CutIs ctx PP 23 Try.f23 [] [] cv1 at_laws_heldIntS (B_laws_heldIntS ) := fun stop s => by cases s <;> kernel_rfl
theorem i_laws_heldIntS : ∀ s s', at_laws_heldIntS s = at_laws_heldIntS s' → s = s' := by
  intro s s' h
  cases s with
  | c0 v0 v1 v2 => cases s' with
    | c0 w0 w1 w2 => cases h; rfl
theorem ok_laws_heldIntS : Tells ctx PP 23 cv21 cv1 (fun a => laws_heldIntS a.1 a.2) := fn_ok hl_nil Try.func23 i_laws_heldIntS (fun _ => rfl) (fun _ _ => rfl) (b_laws_heldIntS ) (e_laws_heldIntS ) gas
noncomputable def H_laws_heldIntS {γ : Type} (F : (List Int) → Int → Option Int) : Hd ctx γ := hdl cv21.dec (fun a => F a.1 a.2) cv1.enc
theorem h_laws_heldIntS {γ : Type} : HdOk (γ := γ) PP 23 (H_laws_heldIntS laws_heldIntS) := hd_ok ok_laws_heldIntS
noncomputable def E_laws_FnExactLeafs (laws_szGivenS : (List SGiven) → Int → Option Int) (laws_toGivenS : (List SGiven) → Option (List SGiven)) (spec_Leafs : (List SGiven) → Int → Option (List Int)) (impl_Leafs : (List SGiven) → Int → Option (List Int)) (laws_eqIntS : (List Int) → (List Int) → Option Bool) (laws_eqGivenS : (List SGiven) → (List SGiven) → Option Bool) (laws_markGivenS : (List SGiven) → Int → Option (Int × (List SGiven))) (laws_markIntS : (List Int) → Int → Option (Int × (List Int))) (laws_heldIntS : (List Int) → Int → Option Int) (aList_0 : (List SGiven)) (aThing_1 : Int) : Option Bool :=
  (laws_szGivenS aList_0 (1048576 : Int)).bind fun r0 =>
  bif (decide (r0 < 0)) then
    some true
  else
    (laws_toGivenS aList_0).bind fun r1 =>
    (spec_Leafs r1 aThing_1).bind fun r2 =>
    (laws_toGivenS aList_0).bind fun r3 =>
    (impl_Leafs r3 aThing_1).bind fun r4 =>
    (laws_eqIntS r4 r2).bind fun r5 =>
    bif (!r5) then
      some false
    else
      (laws_toGivenS aList_0).bind fun r6 =>
      (laws_eqGivenS r3 r6).bind fun r7 =>
      bif (!r7) then
        some false
      else
        (laws_markGivenS r3 (1 : Int)).bind fun r8 =>
        bif (decide (r8.1 < 0)) then
          some false
        else
          (laws_eqIntS r4 r2).bind fun r9 =>
          bif (!r9) then
            some false
          else
            (laws_markIntS r4 (1 : Int)).bind fun r10 =>
            (laws_heldIntS r10.2 (1 : Int)).bind fun r11 =>
            bif (decide (r11 < 0)) then
              some false
            else
              bif (r11 != r10.1) then
                some false
              else
                (laws_toGivenS aList_0).bind fun r12 =>
                (impl_Leafs r12 aThing_1).bind fun r13 =>
                (laws_eqIntS r13 r2).bind fun r14 =>
                bif (!r14) then
                  some false
                else
                  (laws_heldIntS r10.2 (1 : Int)).bind fun r15 =>
                  bif (decide (r15 < 0)) then
                    some false
                  else
                    bif (r15 != r10.1) then
                      some false
                    else
                      some true
noncomputable def laws_FnExactLeafs (aList_0 : (List SGiven)) (aThing_1 : Int) : Option Bool := E_laws_FnExactLeafs laws_szGivenS laws_toGivenS spec_Leafs impl_Leafs laws_eqIntS laws_eqGivenS laws_markGivenS laws_markIntS laws_heldIntS aList_0 aThing_1
theorem e_laws_FnExactLeafs (laws_szGivenS : (List SGiven) → Int → Option Int) (laws_toGivenS : (List SGiven) → Option (List SGiven)) (spec_Leafs : (List SGiven) → Int → Option (List Int)) (impl_Leafs : (List SGiven) → Int → Option (List Int)) (laws_eqIntS : (List Int) → (List Int) → Option Bool) (laws_eqGivenS : (List SGiven) → (List SGiven) → Option Bool) (laws_markGivenS : (List SGiven) → Int → Option (Int × (List SGiven))) (laws_markIntS : (List Int) → Int → Option (Int × (List Int))) (laws_heldIntS : (List Int) → Int → Option Int) : EntryIs0 ctx PP 4 [] [(15, H_laws_szGivenS laws_szGivenS), (17, H_laws_toGivenS laws_toGivenS), (16, H_spec_Leafs spec_Leafs), (18, H_impl_Leafs impl_Leafs), (19, H_laws_eqIntS laws_eqIntS), (20, H_laws_eqGivenS laws_eqGivenS), (21, H_laws_markGivenS laws_markGivenS), (22, H_laws_markIntS laws_markIntS), (23, H_laws_heldIntS laws_heldIntS)] cv8 cv4 (fun a => E_laws_FnExactLeafs laws_szGivenS laws_toGivenS spec_Leafs impl_Leafs laws_eqIntS laws_eqGivenS laws_markGivenS laws_markIntS laws_heldIntS a.1 a.2) := fun a => by kernel_rfl
theorem ok_laws_FnExactLeafs : Tells ctx PP 4 cv8 cv4 (fun a => laws_FnExactLeafs a.1 a.2) := fn_ok0 (hl_cons h_laws_szGivenS (hl_cons h_laws_toGivenS (hl_cons h_spec_Leafs (hl_cons h_impl_Leafs (hl_cons h_laws_eqIntS (hl_cons h_laws_eqGivenS (hl_cons h_laws_markGivenS (hl_cons h_laws_markIntS (hl_cons h_laws_heldIntS hl_nil))))))))) Try.func4 (e_laws_FnExactLeafs laws_szGivenS laws_toGivenS spec_Leafs impl_Leafs laws_eqIntS laws_eqGivenS laws_markGivenS laws_markIntS laws_heldIntS)
noncomputable def H_laws_FnExactLeafs {γ : Type} (F : (List SGiven) → Int → Option Bool) : Hd ctx γ := hdl cv8.dec (fun a => F a.1 a.2) cv4.enc
theorem h_laws_FnExactLeafs {γ : Type} : HdOk (γ := γ) PP 4 (H_laws_FnExactLeafs laws_FnExactLeafs) := hd_ok ok_laws_FnExactLeafs
end Go.Proofs.Ytmhggcgkbenedaa.G
